/- A string put to a row of bytes of the call's own. Conditions: none. -/
import Derived.Test.YthdlfepakkihnaaBytesW
import Derived.Lib.AppendStr
namespace Go.Proofs.Ythdlfepakkihnaa
open Go.RowKit Go.Lib
set_option linter.unusedVariables false
set_option linter.unusedSimpArgs false
set_option maxRecDepth 100000
theorem strCells_flat (s : ByteArray) : strCells s = s.data.toList.flatMap enc8 := by
  unfold strCells
  induction s.data.toList with
  | nil => rfl
  | cons b l ih => rw [List.map_cons, List.flatMap_cons, ih]; rfl
theorem run_appStr {P : Program} (w : World) (t u ty e : TypeId) (i : TypeInfo) (ht : P.underlying t = some (.slice e)) (hu : P.underlying u = some .string) (hi : P.info? e = some i) (hz : i.zero = some (.int .u8 0)) (hsize : i.size = 1) (hby : i.bytes = 1)
    {v : Value} {n : Nat} {xs : List Value} (hown : w.ownsRow 0 e 1 v n xs) (s : ByteArray) (h : n + s.size ≤ 1000000000) :
    ∃ v' w', (Builtin.append_ #[t, u] ty #[v, .string s]).run P w = .ok v' w' ∧ w'.ownsRow 0 e 1 v' (n + s.size) (xs ++ strCells s) ∧ w.grownBy w' v.ownBlock ∧ (v'.ownBlock = v.ownBlock ∨ v'.ownBlock = some w.heap.size) := by
  obtain ⟨v', w', hr, h2, h3, h4⟩ := run_append_own_string (P := P) w 0 t u ty e i ht hu hi hz hsize hby v n xs hown s (by unfold maxLen; omega) (by omega) (Nat.zero_le _)
  refine ⟨v', w', hr, h2, h3, ?_⟩
  have hxl : xs.length = n := by simpa using hown.1
  rcases hown.2 with ⟨rfl, rfl⟩ | ⟨g, cap, cur, rfl, hbg, hg, hnc, hcm, hcs, htake⟩
  · by_cases hm : s.size = 0
    · rw [h4.2 ⟨rfl, hm⟩]; exact .inl rfl
    · have hq := run_append_nil_string (P := P) w t u ty e i (.int .u8 0) ht hu hi hz s (by omega) (by omega) (by rw [hby]; omega)
      rw [hr] at hq
      cases hq
      exact .inr rfl
  · by_cases hroom : n + s.size ≤ cap
    · have hcs' : cur.size = cap := by simpa using hcs
      have hq := run_append_room_string (P := P) w t u ty e i ht hu hi hsize g n cap cur hg s hroom (by omega)
      rw [hr] at hq
      cases hq
      exact .inl rfl
    · have holds : ∀ j u, xs[j]? = some u → w.cell? ((⟨g, 0, none⟩ : Addr).add j) = some u := hown.cells (g := g) rfl
      have hq := run_append_grow_string (P := P) w t u ty e i (.int .u8 0) ht hu hi hz ⟨g, 0, none⟩ n cap xs (by rw [hsize]; simpa using hxl) holds s (by omega) (by omega) (by rw [hby]; exact growslice_fits (by omega) (by omega))
      rw [hr] at hq
      cases hq
      exact .inr rfl
theorem wpI_appStr {P : Program} {o : Oper} {a : Act} {T : Nat → Prop} {w0 w : World} {rs : List Res} {K : Act → World → Prop} {Q : Exit → Act → World → Prop} {t u e : TypeId} (s x : Operand) (ho : o.op = .call { callee := .builtin .append, args := #[s, x], argTypes := #[t, u] }) (ht : P.underlying t = some (.slice e)) (hu : P.underlying u = some .string)
    (hie : (P.info? e).map (fun i => (i.zero, i.size, i.bytes)) = some (some (.int .u8 0), 1, 1)) (hI : InvT T w0 rs w) (i : Nat) {v : Value} {xs : List UInt8} (hs : a.eval s = v) (hi : rs[i]? = some (.row e 1 v xs.length (xs.flatMap enc8))) {z : ByteArray} (hx : a.eval x = .string z) (hn : xs.length + z.size ≤ 1000000000)
    (h : ∀ v' w', InvT T w0 (rs.set i (.row e 1 v' (xs ++ z.data.toList).length ((xs ++ z.data.toList).flatMap enc8))) w' → K (a.put o.dst v') w') : o.wp P a w K Q := by
  cases hie' : P.info? e with
  | none => simp [hie'] at hie
  | some inf =>
    simp only [hie', Option.map_some, Option.some.injEq, Prod.mk.injEq] at hie
    obtain ⟨hz, hsz, hby⟩ := hie
    obtain ⟨v', w', hr, h2, h3, h4⟩ := run_appStr w t u o.type e inf ht hu hie' hz hsz hby (hI.own0 (enc := enc8) hi) z hn
    unfold Oper.wp execOp
    simp only [ho, resolve, invoke, builtin, Sem.run_bind, Sem.run_pure, Result.andThen_ok, List.map_toArray, List.map_cons, List.map_nil, hs, hx, hr]
    have hl : (xs ++ z.data.toList).length = xs.length + z.size := by rw [List.length_append]; rfl
    refine h v' w' (hI.app hi h3 ?_ h4)
    show w'.ownsRow 0 e 1 v' (xs ++ z.data.toList).length ((xs ++ z.data.toList).flatMap enc8)
    rw [hl, List.flatMap_append, ← strCells_flat]
    exact h2
end Go.Proofs.Ythdlfepakkihnaa
