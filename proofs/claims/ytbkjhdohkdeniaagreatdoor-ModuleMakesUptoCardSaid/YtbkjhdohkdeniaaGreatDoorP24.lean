/- What the parts say: The reader of a program: what it holds, its methods find and label. Conditions: none. -/
import Derived.Test.YtbkjhdohkdeniaaGreatDoorP18
import Derived.Test.YtbkjhdohkdeniaaGreatDoorP20
import Derived.Test.YtbkjhdohkdeniaaGreatDoorP23
set_option linter.unusedVariables false
set_option linter.unusedSimpArgs false
namespace Go.Proofs.YtbkjhdohkdeniaaGreatDoor
open Go.RowKit
set_option maxRecDepth 100000
structure RdS where
  code : List Int
  labs : List Lab
  holes : List Hole
def encLab (x : Lab) : List Value := [.string (str x.name), .int .i64 x.pos]
def encHole (h : Hole) : List Value := [.int .i64 h.line, .int .i64 h.pos, .int .i64 h.i.op, .int .i64 h.i.a, .int .i64 h.i.b, .int .i64 h.i.c, .string (str h.name)]
theorem len_Lab : ∀ x, (encLab x).length = 2 := fun _ => rfl
theorem len_Hole : ∀ x, (encHole x).length = 7 := fun _ => rfl
theorem len_Int : ∀ x, (encI x).length = 1 := fun _ => rfl
theorem el_Lab : ElT Tryz.prog encLab 41 47 2 24 where
  under := Tryz.underlying41
  info := by
    obtain ⟨i0, hi, hz0, hz1, hz2⟩ := info_parts (show (Tryz.prog.info? 47).map (fun i => (i.zero, i.size, i.bytes)) = some (some (.agg #[.string ByteArray.empty, .int .i64 0]), 2, 24) by kernel_rfl)
    exact ⟨i0, _, hi, hz0, hz1, hz2, rfl⟩
  pos := by decide
  len := len_Lab
  one := fun x u hu => by
    simp only [encLab, List.mem_cons, List.not_mem_nil, or_false] at hu
    rcases hu with rfl | rfl <;> rfl
theorem el_Hole : ElT Tryz.prog encHole 90 97 7 64 where
  under := Tryz.underlying90
  info := by
    obtain ⟨i0, hi, hz0, hz1, hz2⟩ := info_parts (show (Tryz.prog.info? 97).map (fun i => (i.zero, i.size, i.bytes)) = some (some (.agg #[.int .i64 0, .int .i64 0, .int .i64 0, .int .i64 0, .int .i64 0, .int .i64 0, .string ByteArray.empty]), 7, 64) by kernel_rfl)
    exact ⟨i0, _, hi, hz0, hz1, hz2, rfl⟩
  pos := by decide
  len := len_Hole
  one := fun x u hu => by
    simp only [encHole, List.mem_cons, List.not_mem_nil, or_false] at hu
    rcases hu with rfl | rfl | rfl | rfl | rfl | rfl | rfl <;> rfl
theorem Lies.cellsLab {w : World} {B : Nat} {A : Option Addr} {xs : List Lab} (h : Lies encLab 2 w B A xs) {k : Nat} (hk : k < xs.length) : ∃ b o x, A = some ⟨b, o, none⟩ ∧ b < B ∧ xs[k]? = some x ∧ w.cell? ⟨b, o + k * 2, none⟩ = some (.string (str x.name)) ∧ w.cell? ⟨b, o + k * 2 + 1, none⟩ = some (.int .i64 x.pos) := by
  obtain ⟨b, o, x, hA, hb, hx, hc⟩ := h.at_ hk
  exact ⟨b, o, x, hA, hb, hx, hc 0 (by decide), hc 1 (by decide)⟩
theorem Lies.cellsHole {w : World} {B : Nat} {A : Option Addr} {xs : List Hole} (h : Lies encHole 7 w B A xs) {k : Nat} (hk : k < xs.length) : ∃ b o x, A = some ⟨b, o, none⟩ ∧ b < B ∧ xs[k]? = some x ∧ w.cell? ⟨b, o + k * 7, none⟩ = some (.int .i64 x.line) ∧ w.cell? ⟨b, o + k * 7 + 1, none⟩ = some (.int .i64 x.pos) ∧ w.cell? ⟨b, o + k * 7 + 2, none⟩ = some (.int .i64 x.i.op)
    ∧ w.cell? ⟨b, o + k * 7 + 3, none⟩ = some (.int .i64 x.i.a) ∧ w.cell? ⟨b, o + k * 7 + 4, none⟩ = some (.int .i64 x.i.b) ∧ w.cell? ⟨b, o + k * 7 + 5, none⟩ = some (.int .i64 x.i.c) ∧ w.cell? ⟨b, o + k * 7 + 6, none⟩ = some (.string (str x.name)) := by
  obtain ⟨b, o, x, hA, hb, hx, hc⟩ := h.at_ hk
  exact ⟨b, o, x, hA, hb, hx, hc 0 (by decide), hc 1 (by decide), hc 2 (by decide), hc 3 (by decide), hc 4 (by decide), hc 5 (by decide), hc 6 (by decide)⟩
def rdR (gr : Nat) (vc vl vh : Value) (st : RdS) : List Res :=
  [.box gr 92 #[vc, vl, vh], .row 3 1 vc st.code.length (st.code.flatMap encI), .row 47 2 vl st.labs.length (st.labs.flatMap encLab), .row 97 7 vh st.holes.length (st.holes.flatMap encHole)]
theorem findL_drop {ls : List Lab} {k : Nat} {x : Lab} {nm : List UInt8} (h : ls[k]? = some x) : findL (ls.drop k) nm = if x.name = nm then some x.pos else findL (ls.drop (k + 1)) nm := by
  obtain ⟨hk, rfl⟩ := List.getElem?_eq_some_iff.1 h
  unfold findL
  rw [List.drop_eq_getElem_cons hk, List.find?_cons]
  by_cases he : (ls[k]).name = nm
  · rw [if_pos he, show ((ls[k]).name == nm) = true from beq_iff_eq.2 he]; rfl
  · rw [if_neg he, show ((ls[k]).name == nm) = false from beq_eq_false_iff_ne.2 he]
set_option maxHeartbeats 1000000 in
theorem c_find {T : Nat → Prop} {w0 w : World} (gr : Nat) (vc vl vh : Value) (st : RdS) (nm : List UInt8) (hn : st.labs.length ≤ 1000) (hI : InvT T w0 (rdR gr vc vl vh st) w) :
    Calls Tryz.prog 31 #[.pointer (some ⟨gr, 0, none⟩), .string (str nm)] w fun e w' => e = .returned (.int .i64 ((findL st.labs nm).getD (-1))) ∧ InvT T w0 (rdR gr vc vl vh st) w' := by
  unfold rdR at hI
  obtain ⟨V, cv, hv⟩ := (hI.own0 (enc := encLab) (xs := st.labs) (size := 2) (i := 2) rfl).form
  subst hv
  obtain ⟨sn, hsn⟩ : ∃ sn, str nm = sn := ⟨_, rfl⟩
  have HSN := Lib.hid hsn
  rw [hsn]
  clear hsn
  (try have c0 := hI.cell (i := 0) rfl); (try have c1 := hI.cell (i := 1) rfl); (try have c2 := hI.cell (i := 2) rfl); (try have c3 := hI.cell (i := 3) rfl); (try have c4 := hI.cell (i := 4) rfl); (try have c5 := hI.cell (i := 5) rfl); (try have c6 := hI.cell (i := 6) rfl); skip
  go_enter Tryz.func31, Tryz.ntmps31
  go_wp2_with fail
  go_loopw [6, 12] (fun _ v wr => ∃ k : Nat, v = .int .i64 k ∧ k ≤ st.labs.length ∧ findL st.labs nm = findL (st.labs.drop k) nm ∧ InvT T w0 (rdR gr vc (.slice V st.labs.length cv) vh st) wr) (fun _ v _ => (st.labs.length - intOf v).toNat)
  case atStart => exact ⟨0, rfl, by omega, rfl, hI⟩
  case round =>
    clear hI c0
    obtain ⟨k, rfl, hk, hfl, hI⟩ := hrel
    unfold rdR at hI
    have HF := Lib.hid hfl
    clear hfl
    rcases Nat.lt_or_ge k st.labs.length with hlt | hge
    · obtain ⟨b, o, x, rfl, hb, hx, q0, q1⟩ := ((hI.own0 (enc := encLab) (xs := st.labs) (size := 2) (i := 2) rfl).liesB len_Lab rfl).cellsLab hlt
      have hd := findL_drop (nm := nm) hx
      (try have c0 := hI.cell (i := 0) rfl); (try have c1 := hI.cell (i := 1) rfl); (try have c2 := hI.cell (i := 2) rfl); (try have c3 := hI.cell (i := 3) rfl); (try have c4 := hI.cell (i := 4) rfl); (try have c5 := hI.cell (i := 5) rfl); (try have c6 := hI.cell (i := 6) rfl); skip
      by_cases he : x.name = nm
      · rw [if_pos he] at hd
        have HR := Lib.hid (HF.out.trans hd)
        have hbe : ((str x.name).toList == sn.toList) = true := by rw [he, HSN.out]; exact beq_self_eq_true _
        clear hd he hx
        generalize str x.name = sx at *
        go_wp2_with (first | (refine listI_var rfl rfl 47 rfl _ _ rfl hI Tryz.zeroValue47 (fun _ => rfl) (fun _ => rfl) (by first | rfl | (simp only [hsz1]; first | done | rfl | kernel_rfl) | (simp only [hsz2]; first | done | rfl | kernel_rfl) | (simp only [hsz]; first | done | rfl | kernel_rfl) | kernel_rfl) (by first | exact info_mach (by assumption) | (simp only [hsz1]; kernel_rfl) | (simp only [hsz2]; kernel_rfl) | (simp only [hsz]; kernel_rfl) | kernel_rfl) (by first | (simp [Value.oneCell']; done) | exact HO1.out | exact HO2.out) fun gx w' hI' hb => ?_; (try clear hb); clear hI; have hI := hI'; clear hI'; (try simp only [mm, Act.put, Act.eval] at hI); (try clear c0); (try clear c1); (try clear c2); (try clear c3); (try clear c4); (try clear c5); (try clear c6); (try have c0 := hI.cell (i := 0) rfl); (try have c1 := hI.cell (i := 1) rfl); (try have c2 := hI.cell (i := 2) rfl); (try have c3 := hI.cell (i := 3) rfl); (try have c4 := hI.cell (i := 4) rfl); (try have c5 := hI.cell (i := 5) rfl); (try have c6 := hI.cell (i := 6) rfl); skip) | fail)
        go_returns
        exact ⟨by rw [HR.out]; rfl, hI.first [_, _, _, _] [_] rfl⟩
      · rw [if_neg he] at hd
        have HR := Lib.hid (HF.out.trans hd)
        have hbe : ((str x.name).toList == sn.toList) = false := by rw [← HSN.out]; exact ba_ne fun h => he (str_inj.1 h)
        clear hd he hx
        generalize str x.name = sx at *
        go_wp2_with (first | (refine listI_var rfl rfl 47 rfl _ _ rfl hI Tryz.zeroValue47 (fun _ => rfl) (fun _ => rfl) (by first | rfl | (simp only [hsz1]; first | done | rfl | kernel_rfl) | (simp only [hsz2]; first | done | rfl | kernel_rfl) | (simp only [hsz]; first | done | rfl | kernel_rfl) | kernel_rfl) (by first | exact info_mach (by assumption) | (simp only [hsz1]; kernel_rfl) | (simp only [hsz2]; kernel_rfl) | (simp only [hsz]; kernel_rfl) | kernel_rfl) (by first | (simp [Value.oneCell']; done) | exact HO1.out | exact HO2.out) fun gx w' hI' hb => ?_; (try clear hb); clear hI; have hI := hI'; clear hI'; (try simp only [mm, Act.put, Act.eval] at hI); (try clear c0); (try clear c1); (try clear c2); (try clear c3); (try clear c4); (try clear c5); (try clear c6); (try have c0 := hI.cell (i := 0) rfl); (try have c1 := hI.cell (i := 1) rfl); (try have c2 := hI.cell (i := 2) rfl); (try have c3 := hI.cell (i := 3) rfl); (try have c4 := hI.cell (i := 4) rfl); (try have c5 := hI.cell (i := 5) rfl); (try have c6 := hI.cell (i := 6) rfl); skip) | fail)
        go_roundw
        case rel => exact ⟨k + 1, by go_num, by omega, HR.out, hI.first [_, _, _, _] [_] rfl⟩
        case measure => simp [intOf]; omega
    · obtain rfl : k = st.labs.length := by omega
      have hje : decide ((st.labs.length : Int) < (st.labs.length : Int)) = false := by simp
      have HR := Lib.hid (show findL st.labs nm = none by rw [HF.out, List.drop_length]; rfl)
      (try have c0 := hI.cell (i := 0) rfl); (try have c1 := hI.cell (i := 1) rfl); (try have c2 := hI.cell (i := 2) rfl); (try have c3 := hI.cell (i := 3) rfl); (try have c4 := hI.cell (i := 4) rfl); (try have c5 := hI.cell (i := 5) rfl); (try have c6 := hI.cell (i := 6) rfl); skip
      go_wp2_with fail
      go_returns
      exact ⟨by rw [HR.out]; rfl, hI⟩
def rdNext (st : RdS) (n : Int) : LineK → RdS
  | .label nm => { st with labs := st.labs ++ [⟨nm, st.code.length⟩] }
  | .cell v => { st with code := st.code ++ [v] }
  | .hole i nm => { st with code := st.code ++ [0], holes := st.holes ++ [⟨n, st.code.length, i, nm⟩] }
  | _ => st
def RdRet (T : Nat → Prop) (w0 : World) (gr : Nat) (e : Int) (st' : RdS) (r : Ending) (w' : World) : Prop := r = .returned (.int .i64 e) ∧ (e = 0 → ∃ vc vl vh, InvT T w0 (rdR gr vc vl vh st') w') ∧ ButT T w0 w'
theorem labErr_label (ls : List Lab) (nm : List UInt8) : labErr ls (.label nm) = if nameB nm = false then 3 else if (findL ls nm).isSome = true then 8 else if ls.length = 20 then 9 else 0 := rfl
theorem labErr_name {ls : List Lab} {nm : List UInt8} (h : nameB nm = false) : labErr ls (.label nm) = 3 := by rw [labErr_label, if_pos h]
theorem labErr_twice {ls : List Lab} {nm : List UInt8} (h : nameB nm = true) (h2 : (findL ls nm).isSome = true) : labErr ls (.label nm) = 8 := by rw [labErr_label, if_neg (by rw [h]; decide), if_pos h2]
theorem labErr_full {ls : List Lab} {nm : List UInt8} (h : nameB nm = true) (h2 : (findL ls nm).isSome = false) (h3 : ls.length = 20) : labErr ls (.label nm) = 9 := by rw [labErr_label, if_neg (by rw [h]; decide), if_neg (by rw [h2]; decide), if_pos h3]
theorem labErr_ok {ls : List Lab} {nm : List UInt8} (h : nameB nm = true) (h2 : (findL ls nm).isSome = false) (h3 : ¬ ls.length = 20) : labErr ls (.label nm) = 0 := by rw [labErr_label, if_neg (by rw [h]; decide), if_neg (by rw [h2]; decide), if_neg h3]
theorem findL_pos {ls : List Lab} {nm : List UInt8} {p : Int} (hp : ∀ x ∈ ls, 0 ≤ x.pos) (h : findL ls nm = some p) : 0 ≤ p := by
  unfold findL at h
  cases hf : ls.find? fun l => l.name == nm with
  | none => rw [hf] at h; cases h
  | some x =>
    rw [hf] at h
    obtain rfl : x.pos = p := Option.some.inj h
    exact hp x (List.mem_of_find?_eq_some hf)
set_option maxHeartbeats 2000000 in
theorem c_label {T : Nat → Prop} {w0 w : World} (gr : Nat) (vc vl vh : Value) (st : RdS) (nm : List UInt8) (hn : st.labs.length ≤ 20) (hp : ∀ x ∈ st.labs, 0 ≤ x.pos) (hc : st.code.length ≤ 1000) (hI : InvT T w0 (rdR gr vc vl vh st) w) :
    Calls Tryz.prog 82 #[.pointer (some ⟨gr, 0, none⟩), .string (str nm)] w (RdRet T w0 gr (labErr st.labs (.label nm)) (rdNext st 0 (.label nm))) := by
  have HN0 := Lib.hid (fun w => str_list nm ▸ c_prog_IsName (str nm) w)
  have HF := Lib.hid (fun (w' : World) (vc vl vh : Value) (hI : InvT T w0 (rdR gr vc vl vh st) w') => c_find gr vc vl vh st nm (by omega) hI)
  unfold rdR at hI
  obtain ⟨V, cv, hv⟩ := (hI.own0 (enc := encLab) (xs := st.labs) (size := 2) (i := 2) rfl).form
  obtain ⟨U, cu, hu⟩ := (hI.own0 (enc := encI) (xs := st.code) (size := 1) (i := 1) rfl).form
  subst hv hu
  (try have c0 := hI.cell (i := 0) rfl); (try have c1 := hI.cell (i := 1) rfl); (try have c2 := hI.cell (i := 2) rfl); (try have c3 := hI.cell (i := 3) rfl); (try have c4 := hI.cell (i := 4) rfl); (try have c5 := hI.cell (i := 5) rfl); (try have c6 := hI.cell (i := 6) rfl); skip
  cases hnb : nameB nm
  · have HE := Lib.hid (labErr_name (ls := st.labs) hnb)
    rw [hnb] at HN0
    clear hnb
    go_enter Tryz.func82, Tryz.ntmps82
    go_wp2_with (first | (go_at_call 48; (with_reducible refine (HN0.out _).mono ?_); intro e w' hr; obtain ⟨rfl, hb⟩ := hr; have hI' := hI.on hb; (try clear hb); clear hI; have hI := hI'; clear hI'; (try simp only [mm, Act.put, Act.eval] at hI); (try clear c0); (try clear c1); (try clear c2); (try clear c3); (try clear c4); (try clear c5); (try clear c6); (try have c0 := hI.cell (i := 0) rfl); (try have c1 := hI.cell (i := 1) rfl); (try have c2 := hI.cell (i := 2) rfl); (try have c3 := hI.cell (i := 3) rfl); (try have c4 := hI.cell (i := 4) rfl); (try have c5 := hI.cell (i := 5) rfl); (try have c6 := hI.cell (i := 6) rfl); skip) | fail)
    go_returns
    exact ⟨by rw [HE.out]; rfl, (fun h => by rw [HE.out] at h; cases h), hI.but⟩
  · rw [hnb] at HN0
    cases hfl : findL st.labs nm with
    | some p =>
      have hpp := findL_pos hp hfl
      have HE := Lib.hid (labErr_twice (ls := st.labs) hnb (by rw [hfl]; rfl))
      rw [hfl] at HF
      dsimp only [Option.getD_some] at HF
      have hd : decide ((0 : Int) ≤ p) = true := by simp; exact hpp
      clear hnb
      go_enter Tryz.func82, Tryz.ntmps82
      go_wp2_with (first | (go_at_call 48; (with_reducible refine (HN0.out _).mono ?_); intro e w' hr; obtain ⟨rfl, hb⟩ := hr; have hI' := hI.on hb; (try clear hb); clear hI; have hI := hI'; clear hI'; (try simp only [mm, Act.put, Act.eval] at hI); (try clear c0); (try clear c1); (try clear c2); (try clear c3); (try clear c4); (try clear c5); (try clear c6); (try have c0 := hI.cell (i := 0) rfl); (try have c1 := hI.cell (i := 1) rfl); (try have c2 := hI.cell (i := 2) rfl); (try have c3 := hI.cell (i := 3) rfl); (try have c4 := hI.cell (i := 4) rfl); (try have c5 := hI.cell (i := 5) rfl); (try have c6 := hI.cell (i := 6) rfl); skip) | (go_at_call 31; refine (HF.out _ _ _ _ hI).mono ?_; rintro e w' ⟨rfl, hI'⟩; unfold rdR at hI'; (try clear hb); clear hI; have hI := hI'; clear hI'; (try simp only [mm, Act.put, Act.eval] at hI); (try clear c0); (try clear c1); (try clear c2); (try clear c3); (try clear c4); (try clear c5); (try clear c6); (try have c0 := hI.cell (i := 0) rfl); (try have c1 := hI.cell (i := 1) rfl); (try have c2 := hI.cell (i := 2) rfl); (try have c3 := hI.cell (i := 3) rfl); (try have c4 := hI.cell (i := 4) rfl); (try have c5 := hI.cell (i := 5) rfl); (try have c6 := hI.cell (i := 6) rfl); skip) | fail)
      go_returns
      exact ⟨by rw [HE.out]; rfl, (fun h => by rw [HE.out] at h; cases h), hI.but⟩
    | none =>
      rw [hfl] at HF
      dsimp only [Option.getD_none] at HF
      by_cases h20 : st.labs.length = 20
      · have HE := Lib.hid (labErr_full (ls := st.labs) hnb (by rw [hfl]; rfl) h20)
        clear hnb hn hp
        have hl20 : ((st.labs.length : Int) == 20) = true := by simp; omega
        have hl21 : (st.labs.length : Int) = 20 := by omega
        clear h20
        go_enter Tryz.func82, Tryz.ntmps82
        go_wp2_with (first | (go_at_call 48; (with_reducible refine (HN0.out _).mono ?_); intro e w' hr; obtain ⟨rfl, hb⟩ := hr; have hI' := hI.on hb; (try clear hb); clear hI; have hI := hI'; clear hI'; (try simp only [mm, Act.put, Act.eval] at hI); (try clear c0); (try clear c1); (try clear c2); (try clear c3); (try clear c4); (try clear c5); (try clear c6); (try have c0 := hI.cell (i := 0) rfl); (try have c1 := hI.cell (i := 1) rfl); (try have c2 := hI.cell (i := 2) rfl); (try have c3 := hI.cell (i := 3) rfl); (try have c4 := hI.cell (i := 4) rfl); (try have c5 := hI.cell (i := 5) rfl); (try have c6 := hI.cell (i := 6) rfl); skip) | (go_at_call 31; refine (HF.out _ _ _ _ hI).mono ?_; rintro e w' ⟨rfl, hI'⟩; unfold rdR at hI'; (try clear hb); clear hI; have hI := hI'; clear hI'; (try simp only [mm, Act.put, Act.eval] at hI); (try clear c0); (try clear c1); (try clear c2); (try clear c3); (try clear c4); (try clear c5); (try clear c6); (try have c0 := hI.cell (i := 0) rfl); (try have c1 := hI.cell (i := 1) rfl); (try have c2 := hI.cell (i := 2) rfl); (try have c3 := hI.cell (i := 3) rfl); (try have c4 := hI.cell (i := 4) rfl); (try have c5 := hI.cell (i := 5) rfl); (try have c6 := hI.cell (i := 6) rfl); skip) | fail)
        go_returns
        exact ⟨by rw [HE.out]; rfl, (fun h => by rw [HE.out] at h; cases h), hI.but⟩
      · have HE := Lib.hid (labErr_ok (ls := st.labs) hnb (by rw [hfl]; rfl) h20)
        have hl20 : ((st.labs.length : Int) == 20) = false := by simp; omega
        have hl21 : ¬ (st.labs.length : Int) = 20 := by omega
        clear hnb
        go_enter Tryz.func82, Tryz.ntmps82
        go_wp2_with (first | (go_at_call 48; (with_reducible refine (HN0.out _).mono ?_); intro e w' hr; obtain ⟨rfl, hb⟩ := hr; have hI' := hI.on hb; (try clear hb); clear hI; have hI := hI'; clear hI'; (try simp only [mm, Act.put, Act.eval] at hI); (try clear c0); (try clear c1); (try clear c2); (try clear c3); (try clear c4); (try clear c5); (try clear c6); (try have c0 := hI.cell (i := 0) rfl); (try have c1 := hI.cell (i := 1) rfl); (try have c2 := hI.cell (i := 2) rfl); (try have c3 := hI.cell (i := 3) rfl); (try have c4 := hI.cell (i := 4) rfl); (try have c5 := hI.cell (i := 5) rfl); (try have c6 := hI.cell (i := 6) rfl); skip) | (go_at_call 31; refine (HF.out _ _ _ _ hI).mono ?_; rintro e w' ⟨rfl, hI'⟩; unfold rdR at hI'; (try clear hb); clear hI; have hI := hI'; clear hI'; (try simp only [mm, Act.put, Act.eval] at hI); (try clear c0); (try clear c1); (try clear c2); (try clear c3); (try clear c4); (try clear c5); (try clear c6); (try have c0 := hI.cell (i := 0) rfl); (try have c1 := hI.cell (i := 1) rfl); (try have c2 := hI.cell (i := 2) rfl); (try have c3 := hI.cell (i := 3) rfl); (try have c4 := hI.cell (i := 4) rfl); (try have c5 := hI.cell (i := 5) rfl); (try have c6 := hI.cell (i := 6) rfl); skip) | fail)
        (refine wp_region_KG 16 [0] (by kernel_rfl) hI fun w' hI' hHeld => ?_; (try clear hb); clear hI; have hI := hI'; clear hI'; (try simp only [mm, Act.put, Act.eval] at hI); (try clear c0); (try clear c1); (try clear c2); (try clear c3); (try clear c4); (try clear c5); (try clear c6); (try have c0 := hI.cell (i := 0) rfl); (try have c1 := hI.cell (i := 1) rfl); (try have c2 := hI.cell (i := 2) rfl); (try have c3 := hI.cell (i := 3) rfl); (try have c4 := hI.cell (i := 4) rfl); (try have c5 := hI.cell (i := 5) rfl); (try have c6 := hI.cell (i := 6) rfl); skip)
        (refine tg 0 ?_; (try simp only [np, Act.put])); (refine tg 1 ?_; (try simp only [np, Act.put])); (refine tg 2 ?_; (try simp only [np, Act.put])); (refine tg 3 ?_; (try simp only [np, Act.put])); (refine tg 4 ?_; (try simp only [np, Act.put])); (refine tg 5 ?_; (try simp only [np, Act.put])); (refine tg 6 ?_; (try simp only [np, Act.put])); (refine tg 7 ?_; (try simp only [np, Act.put])); (refine tg 8 ?_; (try simp only [np, Act.put])); (refine tg 9 ?_; (try simp only [np, Act.put])); (refine tg 10 ?_; (try simp only [np, Act.put])); (refine tg 11 ?_; (try simp only [np, Act.put]))
        refine oneG (i := 12) (by kernel_rfl) rfl (fun K hK => ?_)
        (refine stepI rfl (wpI_slice1 _ 47 _ rfl hI Tryz.underlying41 rfl (size := 2) (by kernel_rfl) rfl fun gy w' hI' hb => hK.out _ _ (hI'.held (by simp)) (fun hHeld => ?_)); clear hK K; (try clear hb); clear hI; have hI := hI'; clear hI'; (try simp only [mm, Act.put, Act.eval] at hI); (try clear c0); (try clear c1); (try clear c2); (try clear c3); (try clear c4); (try clear c5); (try clear c6); (try have c0 := hI.cell (i := 0) rfl); (try have c1 := hI.cell (i := 1) rfl); (try have c2 := hI.cell (i := 2) rfl); (try have c3 := hI.cell (i := 3) rfl); (try have c4 := hI.cell (i := 4) rfl); (try have c5 := hI.cell (i := 5) rfl); (try have c6 := hI.cell (i := 6) rfl); skip; (try simp only [Act.put, List.setIfInBounds_toArray, List.set_cons_zero, List.set_cons_succ]))
        refine oneG (i := 13) (by kernel_rfl) rfl (fun K hK => ?_)
        (refine stepI rfl (wpI_app _ _ rfl el_Lab hI 2 rfl rfl (ys := [⟨nm, st.code.length⟩]) rfl (hI.lies1 (i := 4) rfl _ (fun j hj => by rw [List.getElem?_toArray]; rfl)) rfl (by unfold maxLen; simp only [List.length_cons, List.length_nil]; omega) (by simp only [List.length_cons, List.length_nil]; omega) fun v' w' hI' => hK.out _ _ (hI'.held (by simp)) (fun hHeld => ?_)); clear hK K; (try clear hb); clear hI; have hI := hI'; clear hI'; (try simp only [mm, Act.put, Act.eval] at hI); (try clear c0); (try clear c1); (try clear c2); (try clear c3); (try clear c4); (try clear c5); (try clear c6); (try have c0 := hI.cell (i := 0) rfl); (try have c1 := hI.cell (i := 1) rfl); (try have c2 := hI.cell (i := 2) rfl); (try have c3 := hI.cell (i := 3) rfl); (try have c4 := hI.cell (i := 4) rfl); (try have c5 := hI.cell (i := 5) rfl); (try have c6 := hI.cell (i := 6) rfl); skip; (try simp only [Act.put, List.setIfInBounds_toArray, List.set_cons_zero, List.set_cons_succ]))
        (refine tg 14 ?_; (try simp only [np, Act.put])); (refine tg 15 ?_; (try simp only [np, Act.put]))
        refine oneGs (i := 16) (by kernel_rfl) rfl (by kernel_rfl) (fun K hK => ?_)
        (refine stepI rfl (wpI_store1 _ _ _ rfl hI rfl 0 rfl rfl (hI.one (i := 2) rfl) (by simp) (by kernel_rfl) fun w' hI' => hK.out _ _ ?_); clear hK K; (try clear hb); clear hI; have hI := hI'; clear hI'; (try simp only [mm, Act.put, Act.eval] at hI); (try clear c0); (try clear c1); (try clear c2); (try clear c3); (try clear c4); (try clear c5); (try clear c6); (try have c0 := hI.cell (i := 0) rfl); (try have c1 := hI.cell (i := 1) rfl); (try have c2 := hI.cell (i := 2) rfl); (try have c3 := hI.cell (i := 3) rfl); (try have c4 := hI.cell (i := 4) rfl); (try have c5 := hI.cell (i := 5) rfl); (try have c6 := hI.cell (i := 6) rfl); skip; (try simp only [Act.put, List.setIfInBounds_toArray, List.set_cons_zero, List.set_cons_succ]))
        refine doneG (by kernel_rfl) ?_ _
        clear hHeld
        go_wp2_with fail
        go_returns
        have h3 := hI.first (rdR gr (.slice U st.code.length cu) v' vh (rdNext st 0 (.label nm))) [_] (by rfl)
        exact ⟨by rw [HE.out]; rfl, (fun _ => ⟨_, _, _, h3⟩), hI.but⟩
end Go.Proofs.YtbkjhdohkdeniaaGreatDoor
