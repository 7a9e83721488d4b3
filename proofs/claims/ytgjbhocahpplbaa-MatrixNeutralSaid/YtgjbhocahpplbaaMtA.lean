/- Package matrix: what turns come to. -/
import Derived.Test.YtgjbhocahpplbaaMt9
import Derived.Test.YtgjbhocahpplbaaMk2
namespace Go.Proofs.Ytgjbhocahpplbaa
set_option linter.unusedSimpArgs false
set_option linter.unusedVariables false
open Go.RowKit EV
open SX (Wr Tv Qu Rm Sh Is conjP eqs_iff eqs_false)
open EW (PlL PlT PlV PlVs LfV Mm Bt Opn GV YT lpOf nums)
set_option maxRecDepth 20000
theorem app_lit {m0 m1 m2 m3 m4 m5 m6 m7 m8 m9 ma mb mc md me mf x y z w0 w1 w2 : Int} (q0 : (0 + m0 * x + m1 * y + m2 * z + m3 * 1) / 65536 = w0) (q1 : (0 + m4 * x + m5 * y + m6 * z + m7 * 1) / 65536 = w1) (q2 : (0 + m8 * x + m9 * y + ma * z + mb * 1) / 65536 = w2) (q3 : (0 + mc * x + md * y + me * z + mf * 1) / 65536 = 1) (hM : ∀ n ∈ [m0, m1, m2, m3, m4, m5, m6, m7, m8, m9, ma, mb, mc, md, me, mf], -67108864 ≤ n ∧ n ≤ 67108864) (hx : -2147483648 ≤ x ∧ x ≤ 2147483647) (hy : -2147483648 ≤ y ∧ y ≤ 2147483647) (hz : -2147483648 ≤ z ∧ z ≤ 2147483647) (h0 : -4294967296 ≤ w0 ∧ w0 ≤ 4294967296) (h1 : -4294967296 ≤ w1 ∧ w1 ≤ 4294967296) (h2 : -4294967296 ≤ w2 ∧ w2 ≤ 4294967296) : appV [m0, m1, m2, m3, m4, m5, m6, m7, m8, m9, ma, mb, mc, md, me, mf] [x, y, z, 1] = [w0, w1, w2, 1] ∧ appE [m0, m1, m2, m3, m4, m5, m6, m7, m8, m9, ma, mb, mc, md, me, mf] [x, y, z, 1] = 0 := by
  have e0 : dq (row [m0, m1, m2, m3, m4, m5, m6, m7, m8, m9, ma, mb, mc, md, me, mf] 0) [x, y, z, 1] = w0 := q0
  have e1 : dq (row [m0, m1, m2, m3, m4, m5, m6, m7, m8, m9, ma, mb, mc, md, me, mf] 1) [x, y, z, 1] = w1 := q1
  have e2 : dq (row [m0, m1, m2, m3, m4, m5, m6, m7, m8, m9, ma, mb, mc, md, me, mf] 2) [x, y, z, 1] = w2 := q2
  have e3 : dq (row [m0, m1, m2, m3, m4, m5, m6, m7, m8, m9, ma, mb, mc, md, me, mf] 3) [x, y, z, 1] = 1 := q3
  have h : appOk [m0, m1, m2, m3, m4, m5, m6, m7, m8, m9, ma, mb, mc, md, me, mf] [x, y, z, 1] := by
    refine ⟨⟨by omega, fun n hn => by have := hM n hn; omega⟩, ⟨by omega, fun n hn => ?_⟩, fun i hi => ?_⟩
    · simp only [vec16, List.cons_append, List.nil_append, List.mem_cons, List.not_mem_nil, or_false] at hn
      omega
    · have : i = 0 ∨ i = 1 ∨ i = 2 ∨ i = 3 := by omega
      rcases this with rfl | rfl | rfl | rfl
      · unfold sumOk; rw [e0]; unfold okQ; omega
      · unfold sumOk; rw [e1]; unfold okQ; omega
      · unfold sumOk; rw [e2]; unfold okQ; omega
      · unfold sumOk; rw [e3]; unfold okQ; omega
  rw [appV, appE, if_pos h, if_pos h]
  refine ⟨?_, rfl⟩
  show [dq (row [m0, m1, m2, m3, m4, m5, m6, m7, m8, m9, ma, mb, mc, md, me, mf] 0) [x, y, z, 1], dq (row [m0, m1, m2, m3, m4, m5, m6, m7, m8, m9, ma, mb, mc, md, me, mf] 1) [x, y, z, 1], dq (row [m0, m1, m2, m3, m4, m5, m6, m7, m8, m9, ma, mb, mc, md, me, mf] 2) [x, y, z, 1], dq (row [m0, m1, m2, m3, m4, m5, m6, m7, m8, m9, ma, mb, mc, md, me, mf] 3) [x, y, z, 1]] = _
  rw [e0, e1, e2, e3]
theorem ta00 (x y z : Int) (hx : -2147483648 ≤ x ∧ x ≤ 2147483647) (hy : -2147483648 ≤ y ∧ y ≤ 2147483647) (hz : -2147483648 ≤ z ∧ z ≤ 2147483647) : appV (turnL 0 0) [x, y, z, 1] = [x, y, z, 1] ∧ appE (turnL 0 0) [x, y, z, 1] = 0 := by
  rw [show turnL 0 0 = [65536, 0, 0, 0, 0, 65536, 0, 0, 0, 0, 65536, 0, 0, 0, 0, 65536] from by decide]
  exact app_lit (by omega) (by omega) (by omega) (by omega) (by decide) hx hy hz (by omega) (by omega) (by omega)
theorem ta01 (x y z : Int) (hx : -2147483648 ≤ x ∧ x ≤ 2147483647) (hy : -2147483648 ≤ y ∧ y ≤ 2147483647) (hz : -2147483648 ≤ z ∧ z ≤ 2147483647) : appV (turnL 0 1) [x, y, z, 1] = [x, -z, y, 1] ∧ appE (turnL 0 1) [x, y, z, 1] = 0 := by
  rw [show turnL 0 1 = [65536, 0, 0, 0, 0, 0, -65536, 0, 0, 65536, 0, 0, 0, 0, 0, 65536] from by decide]
  exact app_lit (by omega) (by omega) (by omega) (by omega) (by decide) hx hy hz (by omega) (by omega) (by omega)
theorem ta02 (x y z : Int) (hx : -2147483648 ≤ x ∧ x ≤ 2147483647) (hy : -2147483648 ≤ y ∧ y ≤ 2147483647) (hz : -2147483648 ≤ z ∧ z ≤ 2147483647) : appV (turnL 0 2) [x, y, z, 1] = [x, -y, -z, 1] ∧ appE (turnL 0 2) [x, y, z, 1] = 0 := by
  rw [show turnL 0 2 = [65536, 0, 0, 0, 0, -65536, 0, 0, 0, 0, -65536, 0, 0, 0, 0, 65536] from by decide]
  exact app_lit (by omega) (by omega) (by omega) (by omega) (by decide) hx hy hz (by omega) (by omega) (by omega)
theorem ta03 (x y z : Int) (hx : -2147483648 ≤ x ∧ x ≤ 2147483647) (hy : -2147483648 ≤ y ∧ y ≤ 2147483647) (hz : -2147483648 ≤ z ∧ z ≤ 2147483647) : appV (turnL 0 3) [x, y, z, 1] = [x, z, -y, 1] ∧ appE (turnL 0 3) [x, y, z, 1] = 0 := by
  rw [show turnL 0 3 = [65536, 0, 0, 0, 0, 0, 65536, 0, 0, -65536, 0, 0, 0, 0, 0, 65536] from by decide]
  exact app_lit (by omega) (by omega) (by omega) (by omega) (by decide) hx hy hz (by omega) (by omega) (by omega)
theorem ta10 (x y z : Int) (hx : -2147483648 ≤ x ∧ x ≤ 2147483647) (hy : -2147483648 ≤ y ∧ y ≤ 2147483647) (hz : -2147483648 ≤ z ∧ z ≤ 2147483647) : appV (turnL 1 0) [x, y, z, 1] = [x, y, z, 1] ∧ appE (turnL 1 0) [x, y, z, 1] = 0 := by
  rw [show turnL 1 0 = [65536, 0, 0, 0, 0, 65536, 0, 0, 0, 0, 65536, 0, 0, 0, 0, 65536] from by decide]
  exact app_lit (by omega) (by omega) (by omega) (by omega) (by decide) hx hy hz (by omega) (by omega) (by omega)
theorem ta11 (x y z : Int) (hx : -2147483648 ≤ x ∧ x ≤ 2147483647) (hy : -2147483648 ≤ y ∧ y ≤ 2147483647) (hz : -2147483648 ≤ z ∧ z ≤ 2147483647) : appV (turnL 1 1) [x, y, z, 1] = [z, y, -x, 1] ∧ appE (turnL 1 1) [x, y, z, 1] = 0 := by
  rw [show turnL 1 1 = [0, 0, 65536, 0, 0, 65536, 0, 0, -65536, 0, 0, 0, 0, 0, 0, 65536] from by decide]
  exact app_lit (by omega) (by omega) (by omega) (by omega) (by decide) hx hy hz (by omega) (by omega) (by omega)
theorem ta12 (x y z : Int) (hx : -2147483648 ≤ x ∧ x ≤ 2147483647) (hy : -2147483648 ≤ y ∧ y ≤ 2147483647) (hz : -2147483648 ≤ z ∧ z ≤ 2147483647) : appV (turnL 1 2) [x, y, z, 1] = [-x, y, -z, 1] ∧ appE (turnL 1 2) [x, y, z, 1] = 0 := by
  rw [show turnL 1 2 = [-65536, 0, 0, 0, 0, 65536, 0, 0, 0, 0, -65536, 0, 0, 0, 0, 65536] from by decide]
  exact app_lit (by omega) (by omega) (by omega) (by omega) (by decide) hx hy hz (by omega) (by omega) (by omega)
theorem ta13 (x y z : Int) (hx : -2147483648 ≤ x ∧ x ≤ 2147483647) (hy : -2147483648 ≤ y ∧ y ≤ 2147483647) (hz : -2147483648 ≤ z ∧ z ≤ 2147483647) : appV (turnL 1 3) [x, y, z, 1] = [-z, y, x, 1] ∧ appE (turnL 1 3) [x, y, z, 1] = 0 := by
  rw [show turnL 1 3 = [0, 0, -65536, 0, 0, 65536, 0, 0, 65536, 0, 0, 0, 0, 0, 0, 65536] from by decide]
  exact app_lit (by omega) (by omega) (by omega) (by omega) (by decide) hx hy hz (by omega) (by omega) (by omega)
theorem ta20 (x y z : Int) (hx : -2147483648 ≤ x ∧ x ≤ 2147483647) (hy : -2147483648 ≤ y ∧ y ≤ 2147483647) (hz : -2147483648 ≤ z ∧ z ≤ 2147483647) : appV (turnL 2 0) [x, y, z, 1] = [x, y, z, 1] ∧ appE (turnL 2 0) [x, y, z, 1] = 0 := by
  rw [show turnL 2 0 = [65536, 0, 0, 0, 0, 65536, 0, 0, 0, 0, 65536, 0, 0, 0, 0, 65536] from by decide]
  exact app_lit (by omega) (by omega) (by omega) (by omega) (by decide) hx hy hz (by omega) (by omega) (by omega)
theorem ta21 (x y z : Int) (hx : -2147483648 ≤ x ∧ x ≤ 2147483647) (hy : -2147483648 ≤ y ∧ y ≤ 2147483647) (hz : -2147483648 ≤ z ∧ z ≤ 2147483647) : appV (turnL 2 1) [x, y, z, 1] = [-y, x, z, 1] ∧ appE (turnL 2 1) [x, y, z, 1] = 0 := by
  rw [show turnL 2 1 = [0, -65536, 0, 0, 65536, 0, 0, 0, 0, 0, 65536, 0, 0, 0, 0, 65536] from by decide]
  exact app_lit (by omega) (by omega) (by omega) (by omega) (by decide) hx hy hz (by omega) (by omega) (by omega)
theorem ta22 (x y z : Int) (hx : -2147483648 ≤ x ∧ x ≤ 2147483647) (hy : -2147483648 ≤ y ∧ y ≤ 2147483647) (hz : -2147483648 ≤ z ∧ z ≤ 2147483647) : appV (turnL 2 2) [x, y, z, 1] = [-x, -y, z, 1] ∧ appE (turnL 2 2) [x, y, z, 1] = 0 := by
  rw [show turnL 2 2 = [-65536, 0, 0, 0, 0, -65536, 0, 0, 0, 0, 65536, 0, 0, 0, 0, 65536] from by decide]
  exact app_lit (by omega) (by omega) (by omega) (by omega) (by decide) hx hy hz (by omega) (by omega) (by omega)
theorem ta23 (x y z : Int) (hx : -2147483648 ≤ x ∧ x ≤ 2147483647) (hy : -2147483648 ≤ y ∧ y ≤ 2147483647) (hz : -2147483648 ≤ z ∧ z ≤ 2147483647) : appV (turnL 2 3) [x, y, z, 1] = [y, -x, z, 1] ∧ appE (turnL 2 3) [x, y, z, 1] = 0 := by
  rw [show turnL 2 3 = [0, 65536, 0, 0, -65536, 0, 0, 0, 0, 0, 65536, 0, 0, 0, 0, 65536] from by decide]
  exact app_lit (by omega) (by omega) (by omega) (by omega) (by decide) hx hy hz (by omega) (by omega) (by omega)

theorem turn_mul (k r s : Int) (hk : k = 0 ∨ k = 1 ∨ k = 2) (hr : r = 0 ∨ r = 1 ∨ r = 2 ∨ r = 3) (hs : s = 0 ∨ s = 1 ∨ s = 2 ∨ s = 3) : mulV (turnL k r) (turnL k s) = turnL k ((r + s) % 4) ∧ mulE (turnL k r) (turnL k s) = 0 := by
  rcases hk with rfl | rfl | rfl <;> rcases hr with rfl | rfl | rfl | rfl <;> rcases hs with rfl | rfl | rfl | rfl <;> exact ⟨by decide +kernel, by decide +kernel⟩
theorem turn_ok (k r : Int) (hk : k = 0 ∨ k = 1 ∨ k = 2) (hr : r = 0 ∨ r = 1 ∨ r = 2 ∨ r = 3) : Ok64 (turnL k r) ∧ (turnL k r).length = 16 := by
  rcases hk with rfl | rfl | rfl <;> rcases hr with rfl | rfl | rfl | rfl <;> exact ⟨ok_of (by decide), by decide⟩
theorem turn_rest2 (q : Int) : ∃ s : Int, q.tmod 4 = s ∧ (-4 ≤ s ∧ s ≤ 4) ∧ (s + 4).tmod 4 = q % 4 := by
  have h1 := tmod_le q 4 (by decide)
  have h2 : q.tmod 4 % 4 = q % 4 := by
    have := Int.mul_tdiv_add_tmod q 4
    omega
  refine ⟨q.tmod 4, rfl, ⟨by omega, by omega⟩, ?_⟩
  rw [Int.tmod_eq_emod_of_nonneg (by omega)]; omega
theorem mturnR (k q : Int) (w : World) (hk : k = 0 ∨ k = 1 ∨ k = 2) : Calls Try.prog 12 #[I k, I q] w fun e w' => e = .returned (.tuple #[Nm (turnL k (q % 4)), I 0]) ∧ Below w.heap.size w w' := by
  obtain ⟨s, h1, h2, h3⟩ := turn_rest2 q
  exact mturn k q s (q % 4) w hk h1 h2 h3 (by omega)
theorem quarter_len (a : Int) {l : List Int} (h : l.length = 16) : (quarterL a l).length = 16 := by
  match l, h with
  | [a0, a1, a2, a3, a4, a5, a6, a7, a8, a9, aa, ab, ac, ad, ae, af], _ =>
    simp only [quarterL]; split
    · rfl
    · split <;> rfl
theorem turn_len (a r : Int) : (turnL a r).length = 16 := by
  have h1 := quarter_len a (l := idL) rfl
  have h2 := quarter_len a h1
  unfold turnL; split; rfl; split; exact h1; split; exact h2; exact quarter_len a h2
instance (a r : Int) : EW.LenI (turnL a r) 16 := ⟨turn_len a r⟩
theorem r4 (q : Int) : q % 4 = 0 ∨ q % 4 = 1 ∨ q % 4 = 2 ∨ q % 4 = 3 := by omega
end Go.Proofs.Ytgjbhocahpplbaa
