/- Package wide: Add, Sub, Mul, parts, Int, Cmp, Sign, Div, MulDiv. -/
import Derived.Test.YtbjogekhedglgaaWd1
namespace Go.Proofs.Ytbjogekhedglgaa
set_option linter.unusedSimpArgs false
set_option linter.unusedVariables false
open Go.RowKit EV
open SX (Wr Tv Qu Rm Sh Is conjP eqs_iff eqs_false)
open EW (PlL PlT PlV PlVs LfV Mm Bt Opn GV nums)
set_option maxRecDepth 20000
def wV (z : Int) : Int := if In128 z then z else 0
def wE (z : Int) : Int := if In128 z then 0 else 20
theorem wV_in (z : Int) : In128 (wV z) := by unfold wV; split <;> unfold In128 at * <;> omega
theorem add_fin {z : Int} (h : In128 z) : Ending.returned (.tuple #[W2 (w128 z), .int .i64 0]) = Ending.returned (.tuple #[W2 (wV z), .int .i64 (wE z)]) := by
  rw [wV, wE, if_pos h, if_pos h, w128_in h]
theorem add_finN {z : Int} (h : ¬ In128 z) : Ending.returned (.tuple #[.agg #[.int .i64 0, .int .u64 0], .int .i64 20]) = Ending.returned (.tuple #[W2 (wV z), .int .i64 (wE z)]) := by
  rw [wV, wE, if_neg h, if_neg h]; rfl
theorem wadd (x y : Int) (w : World) (hx : In128 x) (hy : In128 y) : Calls Try.prog 13 #[W2 x, W2 y] w fun e w' => e = .returned (.tuple #[W2 (wV (x + y)), .int .i64 (wE (x + y))]) ∧ Below w.heap.size w w' := by
  obtain ⟨z, hz⟩ : ∃ z, w128 (x + y) = z := ⟨_, rfl⟩
  have hP := fun w => wplus x y w hx hy
  rw [hz] at hP
  refine EW.eEnter Try.func13 rfl Try.ntmps13 ?_
  all_goals try (refine EW.nm ?_)
  all_goals try ((first | refine EW.eRegL (id := 0) ?_ | refine EW.eReg (id := 0) ?_); refine EW.eBox ?_; refine EW.eBox ?_; refine EW.eAlloc ?_; refine EW.eAssign ?_; refine EW.eEnd ?_; (try refine EW.nm ?_))
  all_goals try ((first | refine EW.eRegL (id := 1) ?_ | refine EW.eReg (id := 1) ?_); refine EW.eLoadA (k := 2) ?_; refine EW.eLoadA (k := 2) ?_; refine EW.eCall Try.call35 (fun w => hP w) ?_; refine EW.eAlloc ?_; (first | refine EW.eStoreW (k := 2) ?_ | refine EW.eStore (k := 2) ?_); refine EW.eEnd ?_; (try refine EW.nm ?_))
  all_goals try ((first | refine EW.eRegL (id := 2) ?_ | refine EW.eReg (id := 2) ?_); refine EW.eFieldAddr (k := 1) ?_; refine EW.eLoad1 ?_; refine EW.eLss ?_; refine EW.eFieldAddr (k := 1) ?_; refine EW.eLoad1 ?_; refine EW.eLss ?_; refine EW.eEqlB ?_; refine EW.eMove ?_)
  all_goals try (refine EW.eGuard (j := 7) (o := ⟨some 18, _, _, _, _, _⟩) ?_ ?_ <;> (intro hb hb'; (try dsimp only at hb'); (try (exfalso; first | omega | with_reducible exact absurd rfl hb'))))
  all_goals try ((first | refine EW.eSkipT (j := 7) ?_ | refine EW.eSkipU (j := 7) ?_ | refine EW.eFieldAddr (k := 1) ?_); (first | refine EW.eSkipT (j := 7) ?_ | refine EW.eSkipU (j := 7) ?_ | refine EW.eLoad1 ?_); (first | refine EW.eSkipT (j := 7) ?_ | refine EW.eSkipU (j := 7) ?_ | refine EW.eLss ?_); (first | refine EW.eSkipT (j := 7) ?_ | refine EW.eSkipU (j := 7) ?_ | refine EW.eFieldAddr (k := 1) ?_); (first | refine EW.eSkipT (j := 7) ?_ | refine EW.eSkipU (j := 7) ?_ | refine EW.eLoad1 ?_); (first | refine EW.eSkipT (j := 7) ?_ | refine EW.eSkipU (j := 7) ?_ | refine EW.eLss ?_); (first | refine EW.eSkipT (j := 7) ?_ | refine EW.eSkipU (j := 7) ?_ | refine EW.eNeqB ?_); (first | refine EW.ePickT ?_ | refine EW.ePickF ?_); refine EW.eEnd ?_; (try refine EW.nm ?_))
  all_goals try (first | refine EW.eYes (x := Operand.tmp 25) ?_ | refine EW.eNo (x := Operand.tmp 25) ?_ | (refine EW.eCond (x := Operand.tmp 25) ?_ ?_ <;> (intro hb hb'; (try dsimp only at hb'); (try (exfalso; first | omega | with_reducible exact absurd rfl hb')))))
  all_goals try (refine EW.nm ?_)
  all_goals try ((first | refine EW.eRegL (id := 3) ?_ | refine EW.eReg (id := 3) ?_); refine EW.eBuild (place := fun i => [(0, 1), (1, 1)][i]?) ?_; (first | refine EW.eStoreW (k := 2) ?_ | refine EW.eStore (k := 2) ?_); refine EW.eAssign ?_; refine EW.eEnd ?_; (try refine EW.nm ?_))
  all_goals try ((first | refine EW.eRegL (id := 4) ?_ | refine EW.eReg (id := 4) ?_); refine EW.eLoadA (k := 2) ?_; (first | refine EW.eStoreW (k := 2) ?_ | refine EW.eStore (k := 2) ?_); refine EW.eAssign ?_; refine EW.eEnd ?_; (try refine EW.nm ?_))
  all_goals (refine EW.eLeaveP ?_; intro w' hW; refine ⟨?_, hW⟩)
  all_goals subst hz
  all_goals (try simp only [decide_eq_decide] at *)
  all_goals first | exact add_finN (by unfold w128 at *; unfold In128 at *; omega) | exact add_fin (by unfold w128 at *; unfold In128 at *; omega)
theorem wmul (a b : Int) (w : World) (ha0 : -9223372036854775808 ≤ a) (ha1 : a ≤ 9223372036854775807) (hb0 : -9223372036854775808 ≤ b) (hb1 : b ≤ 9223372036854775807) : Calls Try.prog 21 #[.int .i64 a, .int .i64 b] w fun e w' => e = .returned (W2 (a * b)) ∧ Below w.heap.size w w' := by
  obtain ⟨p0, p1⟩ := abs_prod ha0 ha1 hb0 hb1
  obtain ⟨p, hp⟩ : ∃ p, (a.natAbs : Int) * b.natAbs = p := ⟨_, rfl⟩
  have h1 := fun w => mul64_any (a.natAbs : Int) (b.natAbs : Int) w (by omega) (by omega) (by omega) (by omega)
  rw [hp] at h1 p0 p1
  have hT := fun w => wturned p w (by unfold In128; omega)
  have hw : IntKind.i64.wrap (p / 18446744073709551616) = p / 18446744073709551616 := by rw [IntKind.wrap_i64]; omega
  refine EW.eEnter Try.func21 rfl Try.ntmps21 ?_
  all_goals try (refine EW.nm ?_)
  all_goals try ((first | refine EW.eRegL (id := 0) ?_ | refine EW.eReg (id := 0) ?_); refine EW.eAlloc ?_; refine EW.eEnd ?_; (try refine EW.nm ?_))
  all_goals try ((first | refine EW.eRegL (id := 1) ?_ | refine EW.eReg (id := 1) ?_); refine EW.eMove ?_; (first | refine EW.eCall Try.call41 (fun w => wsize a w ha0 ha1) ?_ | refine EW.eCall Try.call41 (fun w => wsize b w hb0 hb1) ?_); refine EW.eMove ?_; (first | refine EW.eCall Try.call41 (fun w => wsize a w ha0 ha1) ?_ | refine EW.eCall Try.call41 (fun w => wsize b w hb0 hb1) ?_); refine EW.eCall Try.call40 (fun w => h1 w) ?_; refine EW.eMove ?_; (first | refine EW.eExtC ?_ | refine EW.eExtA ?_); (first | refine EW.eExtC ?_ | refine EW.eExtA ?_); refine EW.eAssign ?_; refine EW.eAssign ?_; refine EW.eEnd ?_; (try refine EW.nm ?_))
  all_goals try ((first | refine EW.eRegL (id := 2) ?_ | refine EW.eReg (id := 2) ?_); refine EW.eMove ?_; refine EW.eConv ?_; refine EW.eMove ?_; refine EW.eBuild (place := fun i => [(0, 1), (1, 1)][i]?) ?_; refine EW.eAlloc ?_; (first | refine EW.eStoreW (k := 2) ?_ | refine EW.eStore (k := 2) ?_); refine EW.eEnd ?_; (try refine EW.nm ?_))
  all_goals try ((first | refine EW.eRegL (id := 3) ?_ | refine EW.eReg (id := 3) ?_); refine EW.eMove ?_; refine EW.eLss ?_; refine EW.eMove ?_; refine EW.eLss ?_; refine EW.eNeqB ?_; refine EW.eEnd ?_; (try refine EW.nm ?_))
  all_goals try (first | refine EW.eYes (x := Operand.tmp 24) ?_ | refine EW.eNo (x := Operand.tmp 24) ?_ | (refine EW.eCond (x := Operand.tmp 24) ?_ ?_ <;> (intro hb hb'; (try dsimp only at hb'); (try (exfalso; first | omega | with_reducible exact absurd rfl hb')))))
  all_goals try (refine EW.nm ?_)
  all_goals try ((first | refine EW.eRegL (id := 4) ?_ | refine EW.eReg (id := 4) ?_); refine EW.eLoadA (k := 2) ?_; refine EW.eCall Try.call39 (fun w => hT w) ?_; (first | refine EW.eStoreW (k := 2) ?_ | refine EW.eStore (k := 2) ?_); refine EW.eEnd ?_; (try refine EW.nm ?_))
  all_goals try ((first | refine EW.eRegL (id := 5) ?_ | refine EW.eReg (id := 5) ?_); refine EW.eLoadA (k := 2) ?_; (first | refine EW.eStoreW (k := 2) ?_ | refine EW.eStore (k := 2) ?_); refine EW.eEnd ?_; (try refine EW.nm ?_))
  all_goals (refine EW.eLeaveP ?_; intro w' hW; refine ⟨?_, hW⟩)
  all_goals (try simp only [decide_eq_decide] at *)
  · have := prod_other (a := a) (b := b) (by assumption)
    rw [show w128 (-p) = a * b from by rw [w128_in (by unfold In128; omega)]; omega]
  · have := prod_same (a := a) (b := b) (by assumption)
    rw [show p = a * b from by omega]
theorem wint (z : Int) (w : World) (hz : In128 z) : Calls Try.prog 19 #[W2 z] w fun e w' => e = .returned (.tuple #[.int .i64 (if -9223372036854775808 ≤ z ∧ z ≤ 9223372036854775807 then z else 0), .int .i64 (if -9223372036854775808 ≤ z ∧ z ≤ 9223372036854775807 then 0 else 20)]) ∧ Below w.heap.size w w' := by
  obtain ⟨n, hn⟩ : ∃ n, IntKind.i64.wrap (z % 18446744073709551616) = n := ⟨_, rfl⟩
  have hn2 := hn
  rw [IntKind.wrap_i64] at hn2
  have hw : Wr .i64 (z % 18446744073709551616) n := ⟨hn⟩
  refine EW.eEnter Try.func19 rfl Try.ntmps19 ?_
  all_goals try (refine EW.nm ?_)
  all_goals try ((first | refine EW.eRegL (id := 0) ?_ | refine EW.eReg (id := 0) ?_); refine EW.eBox ?_; refine EW.eAssign ?_; refine EW.eAssign ?_; refine EW.eEnd ?_; (try refine EW.nm ?_))
  all_goals try ((first | refine EW.eRegL (id := 1) ?_ | refine EW.eReg (id := 1) ?_); refine EW.eFieldAddr (k := 1) ?_; refine EW.eLoad1 ?_; refine EW.eConv ?_ (hr' := hw); refine EW.eAssign ?_; refine EW.eEnd ?_; (try refine EW.nm ?_))
  all_goals try ((first | refine EW.eRegL (id := 2) ?_ | refine EW.eReg (id := 2) ?_); refine EW.eMove ?_; refine EW.eCall Try.call22 (fun w => wof n w (by omega) (by omega)) ?_; refine EW.eLoadA (k := 2) ?_; refine EW.eEqlA ?_; refine EW.eDraw ?_; (try refine EW.nm ?_))
  all_goals try (first | refine EW.eYes (x := Operand.tmp 11) ?_ | refine EW.eNo (x := Operand.tmp 11) ?_ | (refine EW.eCond (x := Operand.tmp 11) ?_ ?_ <;> (intro hb hb'; (try dsimp only at hb'); (try (exfalso; first | omega | with_reducible exact absurd rfl hb')))))
  all_goals try (refine EW.nm ?_)
  all_goals try ((first | refine EW.eRegL (id := 3) ?_ | refine EW.eReg (id := 3) ?_); refine EW.eMove ?_; refine EW.eAssign ?_; refine EW.eAssign ?_; refine EW.eEnd ?_; (try refine EW.nm ?_))
  all_goals try ((first | refine EW.eRegL (id := 4) ?_ | refine EW.eReg (id := 4) ?_); refine EW.eAssign ?_; refine EW.eAssign ?_; refine EW.eEnd ?_; (try refine EW.nm ?_))
  all_goals (refine EW.eLeaveP ?_; intro w' hW; refine ⟨?_, hW⟩)
  · obtain rfl : n = z := by omega
    rw [if_pos (by omega), if_pos (by omega)]
  · rw [if_neg (by unfold In128 at hz; omega), if_neg (by unfold In128 at hz; omega)]
/-- The quotient and the rest. -/
def dE (z c : Int) : Int := if c = 0 then 21 else if In128 (z.fdiv c) then 0 else 20
def dQ (z c : Int) : Int := if c = 0 then 0 else if In128 (z.fdiv c) then z.fdiv c else 0
def dR (z c : Int) : Int := if c = 0 then 0 else if In128 (z.fdiv c) then z - z.fdiv c * c else 0
theorem parts_math {H lo c : Int} (hH : 0 ≤ H) (hH' : H < 18446744073709551616) (h2 : 0 ≤ lo) (h3 : lo < 18446744073709551616) (hc : 0 < c) :
    (H * 18446744073709551616 + lo) / c = H / c * 18446744073709551616 + (H % c * 18446744073709551616 + lo) / c ∧ (H * 18446744073709551616 + lo) % c = (H % c * 18446744073709551616 + lo) % c ∧
    0 ≤ (H % c * 18446744073709551616 + lo) / c ∧ (H % c * 18446744073709551616 + lo) / c < 18446744073709551616 ∧ 0 ≤ H / c ∧ H / c ≤ H := by
  have e1 := Int.mul_ediv_add_emod H c
  have e2 : H * 18446744073709551616 + lo = (H % c * 18446744073709551616 + lo) + c * (H / c * 18446744073709551616) := by
    rw [← Int.mul_assoc]; omega
  have m0 := Int.emod_nonneg H (show c ≠ 0 by omega)
  have m1 := Int.emod_lt_of_pos H hc
  refine ⟨?_, ?_, Int.ediv_nonneg (by omega) (by omega), Int.ediv_lt_of_lt_mul hc (by omega), Int.ediv_nonneg hH (by omega), Int.ediv_le_self _ hH⟩
  · rw [e2, Int.add_mul_ediv_left _ _ (show c ≠ 0 by omega)]; omega
  · rw [e2, Int.add_mul_emod_self_left]
/-- x: the number's bits, as one without a sign. -/
theorem wparts (z x c : Int) (w : World) (hz : In128 z) (hx : x = z / 18446744073709551616 % 18446744073709551616 * 18446744073709551616 + z % 18446744073709551616) (hc : 0 < c) (hc' : c < 18446744073709551616) : Calls Try.prog 45 #[W2 z, .int .u64 c] w fun e w' => e = .returned (.tuple #[W2 (w128 (x / c)), .int .u64 (x % c)]) ∧ Below w.heap.size w w' := by
  obtain ⟨H, hH⟩ : ∃ H, z / 18446744073709551616 % 18446744073709551616 = H := ⟨_, rfl⟩
  obtain ⟨lo, hlo⟩ : ∃ lo, z % 18446744073709551616 = lo := ⟨_, rfl⟩
  have g0 : 0 ≤ H ∧ H < 18446744073709551616 ∧ 0 ≤ lo ∧ lo < 18446744073709551616 := by omega
  obtain ⟨g1, g2, g3, g4⟩ := g0
  obtain ⟨e1, e2, e3, e4, e5, e6⟩ := parts_math g1 g2 g3 g4 hc
  have m0 := Int.emod_nonneg H (show c ≠ 0 by omega)
  have m1 := Int.emod_lt_of_pos H hc
  have d1 := fun w => div64_c 0 H c w (by omega) g1 g2 hc hc'
  rw [Int.zero_mul, Int.zero_add] at d1
  have d2 := fun w => div64_c (H % c) lo c w m0 g3 g4 m1 hc'
  rw [hH, hlo] at hx
  rw [hx, e2, e1]
  have hw : Wr .u64 (z / 18446744073709551616) H := ⟨by rw [IntKind.wrap_u64, hH]⟩
  show Calls _ _ #[.agg #[.int .i64 (z / 18446744073709551616), .int .u64 (z % 18446744073709551616)], _] _ _
  rw [hlo]
  refine EW.eEnter Try.func45 rfl Try.ntmps45 ?_
  all_goals try (refine EW.nm ?_)
  all_goals try ((first | refine EW.eRegL (id := 0) ?_ | refine EW.eReg (id := 0) ?_); refine EW.eBox ?_; refine EW.eAlloc ?_; refine EW.eAssign ?_; refine EW.eEnd ?_; (try refine EW.nm ?_))
  all_goals try ((first | refine EW.eRegL (id := 1) ?_ | refine EW.eReg (id := 1) ?_); refine EW.eFieldAddr (k := 1) ?_; refine EW.eLoad1 ?_; refine EW.eConv ?_ (hr' := hw); refine EW.eMove ?_; (first | refine EW.eCall Try.call52 (fun w => d1 w) ?_ | refine EW.eCall Try.call52 (fun w => d2 w) ?_); refine EW.eMove ?_; (first | refine EW.eExtC ?_ | refine EW.eExtA ?_); (first | refine EW.eExtC ?_ | refine EW.eExtA ?_); refine EW.eAssign ?_; refine EW.eAssign ?_; refine EW.eEnd ?_; (try refine EW.nm ?_))
  all_goals try ((first | refine EW.eRegL (id := 2) ?_ | refine EW.eReg (id := 2) ?_); refine EW.eMove ?_; refine EW.eFieldAddr (k := 1) ?_; refine EW.eLoad1 ?_; refine EW.eMove ?_; (first | refine EW.eCall Try.call52 (fun w => d1 w) ?_ | refine EW.eCall Try.call52 (fun w => d2 w) ?_); refine EW.eMove ?_; (first | refine EW.eExtC ?_ | refine EW.eExtA ?_); (first | refine EW.eExtC ?_ | refine EW.eExtA ?_); refine EW.eAssign ?_; refine EW.eAssign ?_; refine EW.eEnd ?_; (try refine EW.nm ?_))
  all_goals try ((first | refine EW.eRegL (id := 3) ?_ | refine EW.eReg (id := 3) ?_); refine EW.eMove ?_; refine EW.eConv ?_; refine EW.eMove ?_; refine EW.eBuild (place := fun i => [(0, 1), (1, 1)][i]?) ?_; refine EW.eMove ?_; (first | refine EW.eStoreW (k := 2) ?_ | refine EW.eStore (k := 2) ?_); refine EW.eAssign ?_; refine EW.eEnd ?_; (try refine EW.nm ?_))
  all_goals (refine EW.eLeaveP ?_; intro w' hW; refine ⟨?_, hW⟩)
  all_goals
    refine congrArg (fun v => Ending.returned (.tuple #[v, _])) ?_
    generalize H / c = q at *
    generalize (H % c * 18446744073709551616 + lo) / c = r at *
    have h1 : IntKind.i64.wrap q = w128 (q * 18446744073709551616 + r) / 18446744073709551616 := by rw [IntKind.wrap_i64]; unfold w128; omega
    have h2 : r = w128 (q * 18446744073709551616 + r) % 18446744073709551616 := by unfold w128; omega
    show Value.agg #[_, _] = .agg #[_, _]
    rw [← h1, ← h2]
end Go.Proofs.Ytbjogekhedglgaa
