/- Package wide: calls of functions without a body, carries, numbers of 128 bits. Package wide: Of, size, turned, plus, Add, Mul. Package wide: Add, Sub, Mul, parts, Int, Cmp, Sign, Div, MulDiv. Package wide: Div, MulDiv. -/
import Derived.Test.YtbjogekhedglgaaHZG
import Derived.Test.YtbjogekhedglgaaHDiv64
import Derived.Shelf.Spec.BitsCarry
namespace Go.Proofs.Ytbjogekhedglgaa
set_option linter.unusedSimpArgs false
set_option linter.unusedVariables false
open Go.RowKit Go.Shelf EV
open SX (Wr Tv Qu Rm Sh Is conjP eqs_iff eqs_false)
open EW (PlL PlT PlV PlVs LfV Mm Bt Opn GV RX)
theorem add64 (x y c : Int) (hx : 0 ≤ x) (hx' : x < 18446744073709551616) (hy : 0 ≤ y) (hy' : y < 18446744073709551616) (hc0 : 0 ≤ c) (hc : c ≤ 1) (w : World) : (callFunc 48 #[.int .u64 x, .int .u64 y, .int .u64 c]).run Try.prog w =
    .ok (.value (.tuple #[.int .u64 ((x + y + c) % 18446744073709551616), .int .u64 ((x + y + c) / 18446744073709551616)])) w := by
  obtain ⟨x, rfl⟩ := Int.eq_ofNat_of_zero_le hx
  obtain ⟨y, rfl⟩ := Int.eq_ofNat_of_zero_le hy
  obtain ⟨c, rfl⟩ := Int.eq_ofNat_of_zero_le hc0
  rw [run_callFunc_extern Try.func48 (by kernel_rfl) (by kernel_rfl) (by kernel_rfl) (e := add64Entry) (by kernel_rfl), run_add64 x y c (by omega) (by omega) (by omega) (by omega)]
  simp only [Result.andThen]
theorem sub64 (x y b : Int) (hx : 0 ≤ x) (hy : 0 ≤ y) (hy' : y < 18446744073709551616) (hb0 : 0 ≤ b) (hb : b ≤ 1) (w : World) : (callFunc 49 #[.int .u64 x, .int .u64 y, .int .u64 b]).run Try.prog w =
    .ok (.value (.tuple #[.int .u64 ((x - y - b) % 18446744073709551616), .int .u64 (if x < y + b then 1 else 0)])) w := by
  obtain ⟨x, rfl⟩ := Int.eq_ofNat_of_zero_le hx
  obtain ⟨y, rfl⟩ := Int.eq_ofNat_of_zero_le hy
  obtain ⟨b, rfl⟩ := Int.eq_ofNat_of_zero_le hb0
  have e1 : (((x + 18446744073709551616 - y - b) % 18446744073709551616 : Nat) : Int) = ((x : Int) - y - b) % 18446744073709551616 := by omega
  have e2 : ((if x < y + b then 1 else 0 : Nat) : Int) = if (x : Int) < y + b then 1 else 0 := by split <;> split <;> omega
  rw [← e1, ← e2, run_callFunc_extern Try.func49 (by kernel_rfl) (by kernel_rfl) (by kernel_rfl) (e := sub64Entry) (by kernel_rfl), run_sub64 x y b (by omega)]
  rfl
theorem mul64_any (x y : Int) (w : World) (h0 : 0 ≤ x) (h1 : x < 18446744073709551616) (h2 : 0 ≤ y) (h3 : y < 18446744073709551616) :
    Calls Try.prog 40 #[.int .u64 x, .int .u64 y] w fun e w' => e = .returned (.tuple #[.int .u64 (x * y / 18446744073709551616), .int .u64 (x * y % 18446744073709551616)]) ∧ Below w.heap.size w w' := by
  obtain ⟨x, rfl⟩ := Int.eq_ofNat_of_zero_le h0
  obtain ⟨y, rfl⟩ := Int.eq_ofNat_of_zero_le h2
  refine (Try.bits_Mul64 x y (by omega) (by omega) w).mono ?_
  rintro e w' ⟨rfl, rfl⟩
  exact ⟨by rw [Int.natCast_ediv, Int.natCast_emod, Int.natCast_mul]; rfl, Below.refl _ _⟩
theorem div64_c (hi lo y : Int) (w : World) (hhi : 0 ≤ hi) (hlo : 0 ≤ lo) (hlo' : lo < 18446744073709551616) (hy : hi < y) (hy' : y < 18446744073709551616) :
    Calls Try.prog 52 #[.int .u64 hi, .int .u64 lo, .int .u64 y] w fun e w' => e = .returned (.tuple #[.int .u64 ((hi * 18446744073709551616 + lo) / y), .int .u64 ((hi * 18446744073709551616 + lo) % y)]) ∧ Below w.heap.size w w' := by
  refine (div64_any hi lo y w hhi hlo hlo' hy hy').mono ?_
  rintro e w' ⟨rfl, n, rfl⟩
  exact ⟨rfl, ⟨rfl, rfl, rfl, Nat.le_refl _, fun _ _ => rfl⟩⟩
section
variable {c : Ctx} {F : Fence} {nn : Nat} {id : Nat} {ops : Array Oper} {draw : Bool} {Q : Exit → Act → World → Prop} {σ0 σ : Sf} {i : Nat} {rest : List Oper} {tr : List Tr} {sup : List Nat}
theorem callV (hF : WideLike F) {f : FuncId} {xs : List Operand} {tys : Array TypeId} {vs : List V} {L : List Value} {ks : List Key} {v : V} {Z : Value} {d : Option Tmp} {rt : TypeId} {pos : String} {af : Array Edge} {g : Option (Nat × Bool)}
    (he : ∀ w, (callFunc f L.toArray).run c.P w = .ok (.value Z) w) (hx : Vals σ xs vs ks) (hl : PlVs vs L) (hv : PlV v Z) (h1 : EW.oneV v = true) (hN : dOk c.N d = true) :
    LocalO c F nn ⟨d, .call ⟨.value (.func f), xs.toArray, tys⟩, rt, pos, af, g⟩ σ ⟨kr ks, putW d v⟩ :=
  LocalO.val hF hN (noDefer rfl) fun s e a w hag hR => ⟨Z, by
    have ee := hl.uniq (EW.Vals.evals hx (fun q hq => hag q (kr_iff.2 hq)) hR)
    simp only [execOp, resolve, invoke, Deferred.ofValue, List.map_toArray, ee, Sem.run_bind, Sem.run_pure, Result.andThen_ok, Act.eval]
    simp only [List.append_toArray, List.nil_append, List.append_nil, he], hv.ok h1, fun n hn => by rw [hv.names] at hn; cases hn⟩
theorem eCallV {d : Tmp} {f : FuncId} {xs : List Operand} {tys : Array TypeId} {vs : List V} {L : List Value} {ks : List Key} {Z : Value} {v : V} {rt : TypeId} {pos : String} {af : Array Edge} {g : Option (Nat × Bool)} {gk : List Key} [hF : WideLike F]
    (he : ∀ w, (callFunc f L.toArray).run c.P w = .ok (.value Z) w)
    (hr : RX c F nn id ops draw Q σ0 (i + 1) rest (upd σ [(.t d, .v v)]) (⟨orR gk (kr ks), [(.t d, .v v)]⟩ :: tr) sup)
    (hG : GOk ops σ g gk := by (first | apply GOk.none | (apply GOk.some; (· rfl); (· rfl); (· (first | with_reducible rfl | with_reducible assumption))))) (hx : Vals σ xs vs ks := by ((repeat (first | apply Vals.nil | (apply Vals.cons; (· rfl)))); done)) (hl : PlVs vs L := by (((repeat (first | apply PlVs.nil | (apply PlVs.cons; (focus (first | (with_reducible exact PlV.a (PlL.map _)) | exact PlV.a (EW.PlL.all (by rfl)) | (apply PlV.a; ((repeat (first | exact PlL.nil | apply PlL.cons)); (first | done | fail))) | (apply PlV.t; ((repeat (first | exact PlT.nil | (apply PlT.row; (focus (first | (with_reducible exact PlL.map _) | exact EW.PlL.all (by rfl) | ((repeat (first | exact PlL.nil | apply PlL.cons)); (first | done | fail))))) | apply PlT.one)); (first | done | fail))) | exact PlV.c))))); (first | done | fail)))) (hv : PlV v Z := by (first | (with_reducible exact PlV.a (PlL.map _)) | exact PlV.a (EW.PlL.all (by rfl)) | (apply PlV.a; ((repeat (first | exact PlL.nil | apply PlL.cons)); (first | done | fail))) | (apply PlV.t; ((repeat (first | exact PlT.nil | (apply PlT.row; (focus (first | (with_reducible exact PlL.map _) | exact EW.PlL.all (by rfl) | ((repeat (first | exact PlL.nil | apply PlL.cons)); (first | done | fail))))) | apply PlT.one)); (first | done | fail))) | exact PlV.c)) (h1 : EW.oneV v = true := by rfl) (hN : dOk c.N (some d) = true := by rfl) :
    RX c F nn id ops draw Q σ0 i (⟨some d, .call ⟨.value (.func f), xs.toArray, tys⟩, rt, pos, af, g⟩ :: rest) σ tr sup :=
  EW.RX_o (t := ⟨kr ks, [(.t d, .v v)]⟩) hr hG (callV hF he hx hl hv h1 hN)
end
/-- A number as one of 128 bits with a sign. -/
def w128 (z : Int) : Int := (z + 170141183460469231731687303715884105728) % 340282366920938463463374607431768211456 - 170141183460469231731687303715884105728
abbrev In128 (z : Int) : Prop := -170141183460469231731687303715884105728 ≤ z ∧ z < 170141183460469231731687303715884105728
theorem w128_in {z : Int} (h : In128 z) : w128 z = z := by unfold w128; omega
theorem w128_bounds (z : Int) : In128 (w128 z) := by unfold In128 w128; omega
theorem w2_eq {a b z : Int} (h1 : a = z / 18446744073709551616) (h2 : b = z % 18446744073709551616) : Ending.returned (.agg #[.int .i64 a, .int .u64 b]) = Ending.returned (W2 z) := by rw [h1, h2]
theorem abs_prod {a b : Int} (ha0 : -9223372036854775808 ≤ a) (ha1 : a ≤ 9223372036854775807) (hb0 : -9223372036854775808 ≤ b) (hb1 : b ≤ 9223372036854775807) :
    0 ≤ (a.natAbs : Int) * b.natAbs ∧ (a.natAbs : Int) * b.natAbs ≤ 85070591730234615865843651857942052864 := by
  have h1 : a.natAbs * b.natAbs ≤ 9223372036854775808 * 9223372036854775808 := Nat.mul_le_mul (by omega) (by omega)
  have h2 : ((a.natAbs * b.natAbs : Nat) : Int) = (a.natAbs : Int) * b.natAbs := by push_cast; rfl
  rw [← h2]; omega
theorem prod_same {a b : Int} (h : (a < 0) ↔ (b < 0)) : (a.natAbs : Int) * b.natAbs = a * b := by
  rcases Int.lt_or_le a 0 with ha | ha
  · have hb := h.1 ha
    rw [Int.ofNat_natAbs_of_nonpos (by omega), Int.ofNat_natAbs_of_nonpos (by omega), Int.neg_mul_neg]
  · have hb : 0 ≤ b := by omega
    rw [Int.natAbs_of_nonneg ha, Int.natAbs_of_nonneg hb]
theorem prod_other {a b : Int} (h : ¬ ((a < 0) ↔ (b < 0))) : (a.natAbs : Int) * b.natAbs = -(a * b) := by
  rcases Int.lt_or_le a 0 with ha | ha
  · have hb : 0 ≤ b := by omega
    rw [Int.ofNat_natAbs_of_nonpos (by omega), Int.natAbs_of_nonneg hb, Int.neg_mul]
  · have hb : b < 0 := by omega
    rw [Int.natAbs_of_nonneg ha, Int.ofNat_natAbs_of_nonpos (by omega), Int.mul_neg]
theorem prod128 {a b : Int} (ha0 : -9223372036854775808 ≤ a) (ha1 : a ≤ 9223372036854775807) (hb0 : -9223372036854775808 ≤ b) (hb1 : b ≤ 9223372036854775807) : In128 (a * b) := by
  obtain ⟨h1, h2⟩ := abs_prod ha0 ha1 hb0 hb1
  have e : ((a * b).natAbs : Int) = (a.natAbs : Int) * b.natAbs := by rw [Int.natAbs_mul, Int.natCast_mul]
  unfold In128; omega
end Go.Proofs.Ytbjogekhedglgaa
namespace Go.Proofs.Ytbjogekhedglgaa
set_option linter.unusedSimpArgs false
set_option linter.unusedVariables false
open Go.RowKit EV
open SX (Wr Tv Qu Rm Sh Is conjP eqs_iff eqs_false)
open EW (PlL PlT PlV PlVs LfV Mm Bt Opn GV nums)
set_option maxRecDepth 20000
theorem wof (n : Int) (w : World) (h0 : -9223372036854775808 ≤ n) (h1 : n ≤ 9223372036854775807) : Calls Try.prog 22 #[.int .i64 n] w fun e w' => e = .returned (W2 n) ∧ Below w.heap.size w w' := by
  refine EW.eEnter Try.func22 rfl Try.ntmps22 ?_
  all_goals try (refine EW.nm ?_)
  all_goals try ((first | refine EW.eRegL (id := 0) ?_ | refine EW.eReg (id := 0) ?_); refine EW.eAlloc ?_; refine EW.eEnd ?_; (try refine EW.nm ?_))
  all_goals try ((first | refine EW.eRegL (id := 1) ?_ | refine EW.eReg (id := 1) ?_); refine EW.eMove ?_; refine EW.eShr ?_; refine EW.eMove ?_; refine EW.eConv ?_; refine EW.eBuild (place := fun i => [(0, 1), (1, 1)][i]?) ?_; (first | refine EW.eStoreW (k := 2) ?_ | refine EW.eStore (k := 2) ?_); refine EW.eEnd ?_; (try refine EW.nm ?_))
  all_goals (refine EW.eLeaveP ?_; intro w' hW; refine ⟨?_, hW⟩)
  all_goals exact w2_eq (by omega) rfl
theorem wsize (n : Int) (w : World) (h0 : -9223372036854775808 ≤ n) (h1 : n ≤ 9223372036854775807) : Calls Try.prog 41 #[.int .i64 n] w fun e w' => e = .returned (.int .u64 (n.natAbs : Int)) ∧ Below w.heap.size w w' := by
  refine EW.eEnter Try.func41 rfl Try.ntmps41 ?_
  all_goals try (refine EW.nm ?_)
  all_goals try ((first | refine EW.eRegL (id := 0) ?_ | refine EW.eReg (id := 0) ?_); refine EW.eAssign ?_; refine EW.eEnd ?_; (try refine EW.nm ?_))
  all_goals try ((first | refine EW.eRegL (id := 1) ?_ | refine EW.eReg (id := 1) ?_); refine EW.eMove ?_; refine EW.eLss ?_; refine EW.eEnd ?_; (try refine EW.nm ?_))
  all_goals try (first | refine EW.eYes (x := Operand.tmp 4) ?_ | refine EW.eNo (x := Operand.tmp 4) ?_ | (refine EW.eCond (x := Operand.tmp 4) ?_ ?_ <;> (intro hb hb'; (try dsimp only at hb'); (try (exfalso; first | omega | with_reducible exact absurd rfl hb')))))
  all_goals try (refine EW.nm ?_)
  all_goals try ((first | refine EW.eRegL (id := 2) ?_ | refine EW.eReg (id := 2) ?_); refine EW.eMove ?_; refine EW.eConv ?_; refine EW.eNeg ?_; refine EW.eAssign ?_; refine EW.eEnd ?_; (try refine EW.nm ?_))
  all_goals try ((first | refine EW.eRegL (id := 3) ?_ | refine EW.eReg (id := 3) ?_); refine EW.eMove ?_; refine EW.eConv ?_; refine EW.eAssign ?_; refine EW.eEnd ?_; (try refine EW.nm ?_))
  all_goals (refine EW.eLeaveP ?_; intro w' hW; refine ⟨?_, hW⟩)
  all_goals (refine congrArg (fun n => Ending.returned (.int .u64 n)) ?_; omega)
theorem wturned (z : Int) (w : World) (hz : In128 z) : Calls Try.prog 39 #[W2 z] w fun e w' => e = .returned (W2 (w128 (-z))) ∧ Below w.heap.size w w' := by
  obtain ⟨b, hb, hb0, hb1⟩ : ∃ b : Int, (if 0 < z % 18446744073709551616 + 0 then (1 : Int) else 0) = b ∧ 0 ≤ b ∧ b ≤ 1 := ⟨_, rfl, by split <;> omega, by split <;> omega⟩
  have s1 := sub64 0 (z % 18446744073709551616) 0 (by omega) (by omega) (by omega) (by omega) (by omega)
  rw [hb] at s1
  have s2 := sub64 0 (z / 18446744073709551616 % 18446744073709551616) b (by omega) (by omega) (by omega) hb0 hb1
  refine EW.eEnter Try.func39 rfl Try.ntmps39 ?_
  all_goals try (refine EW.nm ?_)
  all_goals try ((first | refine EW.eRegL (id := 0) ?_ | refine EW.eReg (id := 0) ?_); refine EW.eBox ?_; refine EW.eAlloc ?_; refine EW.eEnd ?_; (try refine EW.nm ?_))
  all_goals try ((first | refine EW.eRegL (id := 1) ?_ | refine EW.eReg (id := 1) ?_); refine EW.eFieldAddr (k := 1) ?_; refine EW.eLoad1 ?_; (first | (refine eCallV s1 ?_) | (refine eCallV s2 ?_)); refine EW.eMove ?_; (first | refine EW.eExtC ?_ | refine EW.eExtA ?_); (first | refine EW.eExtC ?_ | refine EW.eExtA ?_); refine EW.eAssign ?_; refine EW.eAssign ?_; refine EW.eEnd ?_; (try refine EW.nm ?_))
  all_goals try ((first | refine EW.eRegL (id := 2) ?_ | refine EW.eReg (id := 2) ?_); refine EW.eFieldAddr (k := 1) ?_; refine EW.eLoad1 ?_; refine EW.eConv ?_; refine EW.eMove ?_; (first | (refine eCallV s1 ?_) | (refine eCallV s2 ?_)); refine EW.eMove ?_; (first | refine EW.eExtC ?_ | refine EW.eExtA ?_); (first | refine EW.eExtC ?_ | refine EW.eExtA ?_); refine EW.eAssign ?_; refine EW.eAssign ?_; refine EW.eEnd ?_; (try refine EW.nm ?_))
  all_goals try ((first | refine EW.eRegL (id := 3) ?_ | refine EW.eReg (id := 3) ?_); refine EW.eMove ?_; refine EW.eConv ?_; refine EW.eMove ?_; refine EW.eBuild (place := fun i => [(0, 1), (1, 1)][i]?) ?_; (first | refine EW.eStoreW (k := 2) ?_ | refine EW.eStore (k := 2) ?_); refine EW.eEnd ?_; (try refine EW.nm ?_))
  all_goals (refine EW.eLeaveP ?_; intro w' hW; refine ⟨?_, hW⟩)
  all_goals refine w2_eq ?_ ?_
  all_goals unfold w128
  all_goals unfold In128 at hz
  · rw [IntKind.wrap_i64]; split at hb <;> subst hb <;> omega
  · omega
theorem wplus (x y : Int) (w : World) (hx : In128 x) (hy : In128 y) : Calls Try.prog 35 #[W2 x, W2 y] w fun e w' => e = .returned (W2 (w128 (x + y))) ∧ Below w.heap.size w w' := by
  have s1 := add64 (x % 18446744073709551616) (y % 18446744073709551616) 0 (by omega) (by omega) (by omega) (by omega) (by omega) (by omega)
  refine EW.eEnter Try.func35 rfl Try.ntmps35 ?_
  all_goals try (refine EW.nm ?_)
  all_goals try ((first | refine EW.eRegL (id := 0) ?_ | refine EW.eReg (id := 0) ?_); refine EW.eBox ?_; refine EW.eBox ?_; refine EW.eAlloc ?_; refine EW.eEnd ?_; (try refine EW.nm ?_))
  all_goals try ((first | refine EW.eRegL (id := 1) ?_ | refine EW.eReg (id := 1) ?_); refine EW.eFieldAddr (k := 1) ?_; refine EW.eLoad1 ?_; refine EW.eFieldAddr (k := 1) ?_; refine EW.eLoad1 ?_; (first | (refine eCallV s1 ?_)); refine EW.eMove ?_; (first | refine EW.eExtC ?_ | refine EW.eExtA ?_); (first | refine EW.eExtC ?_ | refine EW.eExtA ?_); refine EW.eAssign ?_; refine EW.eAssign ?_; refine EW.eEnd ?_; (try refine EW.nm ?_))
  all_goals try ((first | refine EW.eRegL (id := 2) ?_ | refine EW.eReg (id := 2) ?_); refine EW.eFieldAddr (k := 1) ?_; refine EW.eLoad1 ?_; refine EW.eFieldAddr (k := 1) ?_; refine EW.eLoad1 ?_; refine EW.eAdd ?_; refine EW.eMove ?_; refine EW.eConv ?_; refine EW.eAdd ?_; refine EW.eMove ?_; refine EW.eBuild (place := fun i => [(0, 1), (1, 1)][i]?) ?_; (first | refine EW.eStoreW (k := 2) ?_ | refine EW.eStore (k := 2) ?_); refine EW.eEnd ?_; (try refine EW.nm ?_))
  all_goals (refine EW.eLeaveP ?_; intro w' hW; refine ⟨?_, hW⟩)
  all_goals refine w2_eq ?_ ?_
  all_goals unfold w128
  all_goals unfold In128 at hx hy
  · simp only [IntKind.wrap_i64]; omega
  · omega
end Go.Proofs.Ytbjogekhedglgaa
namespace Go.Proofs.Ytbjogekhedglgaa
set_option linter.unusedSimpArgs false
set_option linter.unusedVariables false
open Go.RowKit EV
open SX (Wr Tv Qu Rm Sh Is conjP eqs_iff eqs_false)
open EW (PlL PlT PlV PlVs LfV Mm Bt Opn GV nums)
set_option maxRecDepth 20000
def wV (z : Int) : Int := if In128 z then z else 0
def wE (z : Int) : Int := if In128 z then 0 else 20
theorem add_fin {z : Int} (h : In128 z) : Ending.returned (.tuple #[W2 (w128 z), .int .i64 0]) = Ending.returned (.tuple #[W2 (wV z), .int .i64 (wE z)]) := by
  rw [wV, wE, if_pos h, if_pos h, w128_in h]
theorem add_finN {z : Int} (h : ¬ In128 z) : Ending.returned (.tuple #[.agg #[.int .i64 0, .int .u64 0], .int .i64 20]) = Ending.returned (.tuple #[W2 (wV z), .int .i64 (wE z)]) := by
  rw [wV, wE, if_neg h, if_neg h]; rfl
theorem wadd (x y : Int) (w : World) (hx : In128 x) (hy : In128 y) : Calls Try.prog 13 #[W2 x, W2 y] w fun e w' => e = .returned (.tuple #[W2 (wV (x + y)), .int .i64 (wE (x + y))]) ∧ Below w.heap.size w w' := by
  obtain ⟨z, hz⟩ : ∃ z, w128 (x + y) = z := ⟨_, rfl⟩
  have hP := fun w => wplus x y w hx hy
  rw [hz] at hP
  refine EW.eEnter Try.func13 rfl Try.ntmps13 ?_
  all_goals try (refine EW.nm ?_)
  all_goals try ((first | refine EW.eRegL (id := 0) ?_ | refine EW.eReg (id := 0) ?_); refine EW.eBox ?_; refine EW.eBox ?_; refine EW.eAlloc ?_; refine EW.eAssign ?_; refine EW.eEnd ?_; (try refine EW.nm ?_))
  all_goals try ((first | refine EW.eRegL (id := 1) ?_ | refine EW.eReg (id := 1) ?_); refine EW.eLoadA (k := 2) ?_; refine EW.eLoadA (k := 2) ?_; refine EW.eCall Try.call35 (fun w => hP w) ?_; refine EW.eAlloc ?_; (first | refine EW.eStoreW (k := 2) ?_ | refine EW.eStore (k := 2) ?_); refine EW.eEnd ?_; (try refine EW.nm ?_))
  all_goals try ((first | refine EW.eRegL (id := 2) ?_ | refine EW.eReg (id := 2) ?_); refine EW.eFieldAddr (k := 1) ?_; refine EW.eLoad1 ?_; refine EW.eLss ?_; refine EW.eFieldAddr (k := 1) ?_; refine EW.eLoad1 ?_; refine EW.eLss ?_; refine EW.eEqlB ?_; refine EW.eMove ?_)
  all_goals try (refine EW.eGuard (j := 7) (o := ⟨some 18, _, _, _, _, _⟩) ?_ ?_ <;> (intro hb hb'; (try dsimp only at hb'); (try (exfalso; first | omega | with_reducible exact absurd rfl hb'))))
  all_goals try ((first | refine EW.eSkipT (j := 7) ?_ | refine EW.eSkipU (j := 7) ?_ | refine EW.eFieldAddr (k := 1) ?_); (first | refine EW.eSkipT (j := 7) ?_ | refine EW.eSkipU (j := 7) ?_ | refine EW.eLoad1 ?_); (first | refine EW.eSkipT (j := 7) ?_ | refine EW.eSkipU (j := 7) ?_ | refine EW.eLss ?_); (first | refine EW.eSkipT (j := 7) ?_ | refine EW.eSkipU (j := 7) ?_ | refine EW.eFieldAddr (k := 1) ?_); (first | refine EW.eSkipT (j := 7) ?_ | refine EW.eSkipU (j := 7) ?_ | refine EW.eLoad1 ?_); (first | refine EW.eSkipT (j := 7) ?_ | refine EW.eSkipU (j := 7) ?_ | refine EW.eLss ?_); (first | refine EW.eSkipT (j := 7) ?_ | refine EW.eSkipU (j := 7) ?_ | refine EW.eNeqB ?_); (first | refine EW.ePickT ?_ | refine EW.ePickF ?_); refine EW.eEnd ?_; (try refine EW.nm ?_))
  all_goals try (first | refine EW.eYes (x := Operand.tmp 25) ?_ | refine EW.eNo (x := Operand.tmp 25) ?_ | (refine EW.eCond (x := Operand.tmp 25) ?_ ?_ <;> (intro hb hb'; (try dsimp only at hb'); (try (exfalso; first | omega | with_reducible exact absurd rfl hb')))))
  all_goals try (refine EW.nm ?_)
  all_goals try ((first | refine EW.eRegL (id := 3) ?_ | refine EW.eReg (id := 3) ?_); refine EW.eBuild (place := fun i => [(0, 1), (1, 1)][i]?) ?_; (first | refine EW.eStoreW (k := 2) ?_ | refine EW.eStore (k := 2) ?_); refine EW.eAssign ?_; refine EW.eEnd ?_; (try refine EW.nm ?_))
  all_goals try ((first | refine EW.eRegL (id := 4) ?_ | refine EW.eReg (id := 4) ?_); refine EW.eLoadA (k := 2) ?_; (first | refine EW.eStoreW (k := 2) ?_ | refine EW.eStore (k := 2) ?_); refine EW.eAssign ?_; refine EW.eEnd ?_; (try refine EW.nm ?_))
  all_goals (refine EW.eLeaveP ?_; intro w' hW; refine ⟨?_, hW⟩)
  all_goals subst hz
  all_goals (try simp only [decide_eq_decide] at *)
  all_goals first | exact add_finN (by unfold w128 at *; unfold In128 at *; omega) | exact add_fin (by unfold w128 at *; unfold In128 at *; omega)
theorem wmul (a b : Int) (w : World) (ha0 : -9223372036854775808 ≤ a) (ha1 : a ≤ 9223372036854775807) (hb0 : -9223372036854775808 ≤ b) (hb1 : b ≤ 9223372036854775807) : Calls Try.prog 21 #[.int .i64 a, .int .i64 b] w fun e w' => e = .returned (W2 (a * b)) ∧ Below w.heap.size w w' := by
  obtain ⟨p0, p1⟩ := abs_prod ha0 ha1 hb0 hb1
  obtain ⟨p, hp⟩ : ∃ p, (a.natAbs : Int) * b.natAbs = p := ⟨_, rfl⟩
  have h1 := fun w => mul64_any (a.natAbs : Int) (b.natAbs : Int) w (by omega) (by omega) (by omega) (by omega)
  rw [hp] at h1 p0 p1
  have hT := fun w => wturned p w (by unfold In128; omega)
  have hw : IntKind.i64.wrap (p / 18446744073709551616) = p / 18446744073709551616 := by rw [IntKind.wrap_i64]; omega
  refine EW.eEnter Try.func21 rfl Try.ntmps21 ?_
  all_goals try (refine EW.nm ?_)
  all_goals try ((first | refine EW.eRegL (id := 0) ?_ | refine EW.eReg (id := 0) ?_); refine EW.eAlloc ?_; refine EW.eEnd ?_; (try refine EW.nm ?_))
  all_goals try ((first | refine EW.eRegL (id := 1) ?_ | refine EW.eReg (id := 1) ?_); refine EW.eMove ?_; (first | refine EW.eCall Try.call41 (fun w => wsize a w ha0 ha1) ?_ | refine EW.eCall Try.call41 (fun w => wsize b w hb0 hb1) ?_); refine EW.eMove ?_; (first | refine EW.eCall Try.call41 (fun w => wsize a w ha0 ha1) ?_ | refine EW.eCall Try.call41 (fun w => wsize b w hb0 hb1) ?_); refine EW.eCall Try.call40 (fun w => h1 w) ?_; refine EW.eMove ?_; (first | refine EW.eExtC ?_ | refine EW.eExtA ?_); (first | refine EW.eExtC ?_ | refine EW.eExtA ?_); refine EW.eAssign ?_; refine EW.eAssign ?_; refine EW.eEnd ?_; (try refine EW.nm ?_))
  all_goals try ((first | refine EW.eRegL (id := 2) ?_ | refine EW.eReg (id := 2) ?_); refine EW.eMove ?_; refine EW.eConv ?_; refine EW.eMove ?_; refine EW.eBuild (place := fun i => [(0, 1), (1, 1)][i]?) ?_; refine EW.eAlloc ?_; (first | refine EW.eStoreW (k := 2) ?_ | refine EW.eStore (k := 2) ?_); refine EW.eEnd ?_; (try refine EW.nm ?_))
  all_goals try ((first | refine EW.eRegL (id := 3) ?_ | refine EW.eReg (id := 3) ?_); refine EW.eMove ?_; refine EW.eLss ?_; refine EW.eMove ?_; refine EW.eLss ?_; refine EW.eNeqB ?_; refine EW.eEnd ?_; (try refine EW.nm ?_))
  all_goals try (first | refine EW.eYes (x := Operand.tmp 24) ?_ | refine EW.eNo (x := Operand.tmp 24) ?_ | (refine EW.eCond (x := Operand.tmp 24) ?_ ?_ <;> (intro hb hb'; (try dsimp only at hb'); (try (exfalso; first | omega | with_reducible exact absurd rfl hb')))))
  all_goals try (refine EW.nm ?_)
  all_goals try ((first | refine EW.eRegL (id := 4) ?_ | refine EW.eReg (id := 4) ?_); refine EW.eLoadA (k := 2) ?_; refine EW.eCall Try.call39 (fun w => hT w) ?_; (first | refine EW.eStoreW (k := 2) ?_ | refine EW.eStore (k := 2) ?_); refine EW.eEnd ?_; (try refine EW.nm ?_))
  all_goals try ((first | refine EW.eRegL (id := 5) ?_ | refine EW.eReg (id := 5) ?_); refine EW.eLoadA (k := 2) ?_; (first | refine EW.eStoreW (k := 2) ?_ | refine EW.eStore (k := 2) ?_); refine EW.eEnd ?_; (try refine EW.nm ?_))
  all_goals (refine EW.eLeaveP ?_; intro w' hW; refine ⟨?_, hW⟩)
  all_goals (try simp only [decide_eq_decide] at *)
  · have := prod_other (a := a) (b := b) (by assumption)
    rw [show w128 (-p) = a * b from by rw [w128_in (by unfold In128; omega)]; omega]
  · have := prod_same (a := a) (b := b) (by assumption)
    rw [show p = a * b from by omega]
theorem parts_math {H lo c : Int} (hH : 0 ≤ H) (hH' : H < 18446744073709551616) (h2 : 0 ≤ lo) (h3 : lo < 18446744073709551616) (hc : 0 < c) :
    (H * 18446744073709551616 + lo) / c = H / c * 18446744073709551616 + (H % c * 18446744073709551616 + lo) / c ∧ (H * 18446744073709551616 + lo) % c = (H % c * 18446744073709551616 + lo) % c ∧
    0 ≤ (H % c * 18446744073709551616 + lo) / c ∧ (H % c * 18446744073709551616 + lo) / c < 18446744073709551616 ∧ 0 ≤ H / c ∧ H / c ≤ H := by
  have e1 := Int.mul_ediv_add_emod H c
  have e2 : H * 18446744073709551616 + lo = (H % c * 18446744073709551616 + lo) + c * (H / c * 18446744073709551616) := by
    rw [← Int.mul_assoc]; omega
  have m0 := Int.emod_nonneg H (show c ≠ 0 by omega)
  have m1 := Int.emod_lt_of_pos H hc
  refine ⟨?_, ?_, Int.ediv_nonneg (by omega) (by omega), Int.ediv_lt_of_lt_mul hc (by omega), Int.ediv_nonneg hH (by omega), Int.ediv_le_self _ hH⟩
  · rw [e2, Int.add_mul_ediv_left _ _ (show c ≠ 0 by omega)]; omega
  · rw [e2, Int.add_mul_emod_self_left]
/-- x: the number's bits, as one without a sign. -/
theorem wparts (z x c : Int) (w : World) (hz : In128 z) (hx : x = z / 18446744073709551616 % 18446744073709551616 * 18446744073709551616 + z % 18446744073709551616) (hc : 0 < c) (hc' : c < 18446744073709551616) : Calls Try.prog 45 #[W2 z, .int .u64 c] w fun e w' => e = .returned (.tuple #[W2 (w128 (x / c)), .int .u64 (x % c)]) ∧ Below w.heap.size w w' := by
  obtain ⟨H, hH⟩ : ∃ H, z / 18446744073709551616 % 18446744073709551616 = H := ⟨_, rfl⟩
  obtain ⟨lo, hlo⟩ : ∃ lo, z % 18446744073709551616 = lo := ⟨_, rfl⟩
  have g0 : 0 ≤ H ∧ H < 18446744073709551616 ∧ 0 ≤ lo ∧ lo < 18446744073709551616 := by omega
  obtain ⟨g1, g2, g3, g4⟩ := g0
  obtain ⟨e1, e2, e3, e4, e5, e6⟩ := parts_math g1 g2 g3 g4 hc
  have m0 := Int.emod_nonneg H (show c ≠ 0 by omega)
  have m1 := Int.emod_lt_of_pos H hc
  have d1 := fun w => div64_c 0 H c w (by omega) g1 g2 hc hc'
  rw [Int.zero_mul, Int.zero_add] at d1
  have d2 := fun w => div64_c (H % c) lo c w m0 g3 g4 m1 hc'
  rw [hH, hlo] at hx
  rw [hx, e2, e1]
  have hw : Wr .u64 (z / 18446744073709551616) H := ⟨by rw [IntKind.wrap_u64, hH]⟩
  show Calls _ _ #[.agg #[.int .i64 (z / 18446744073709551616), .int .u64 (z % 18446744073709551616)], _] _ _
  rw [hlo]
  refine EW.eEnter Try.func45 rfl Try.ntmps45 ?_
  all_goals try (refine EW.nm ?_)
  all_goals try ((first | refine EW.eRegL (id := 0) ?_ | refine EW.eReg (id := 0) ?_); refine EW.eBox ?_; refine EW.eAlloc ?_; refine EW.eAssign ?_; refine EW.eEnd ?_; (try refine EW.nm ?_))
  all_goals try ((first | refine EW.eRegL (id := 1) ?_ | refine EW.eReg (id := 1) ?_); refine EW.eFieldAddr (k := 1) ?_; refine EW.eLoad1 ?_; refine EW.eConv ?_ (hr' := hw); refine EW.eMove ?_; (first | refine EW.eCall Try.call52 (fun w => d1 w) ?_ | refine EW.eCall Try.call52 (fun w => d2 w) ?_); refine EW.eMove ?_; (first | refine EW.eExtC ?_ | refine EW.eExtA ?_); (first | refine EW.eExtC ?_ | refine EW.eExtA ?_); refine EW.eAssign ?_; refine EW.eAssign ?_; refine EW.eEnd ?_; (try refine EW.nm ?_))
  all_goals try ((first | refine EW.eRegL (id := 2) ?_ | refine EW.eReg (id := 2) ?_); refine EW.eMove ?_; refine EW.eFieldAddr (k := 1) ?_; refine EW.eLoad1 ?_; refine EW.eMove ?_; (first | refine EW.eCall Try.call52 (fun w => d1 w) ?_ | refine EW.eCall Try.call52 (fun w => d2 w) ?_); refine EW.eMove ?_; (first | refine EW.eExtC ?_ | refine EW.eExtA ?_); (first | refine EW.eExtC ?_ | refine EW.eExtA ?_); refine EW.eAssign ?_; refine EW.eAssign ?_; refine EW.eEnd ?_; (try refine EW.nm ?_))
  all_goals try ((first | refine EW.eRegL (id := 3) ?_ | refine EW.eReg (id := 3) ?_); refine EW.eMove ?_; refine EW.eConv ?_; refine EW.eMove ?_; refine EW.eBuild (place := fun i => [(0, 1), (1, 1)][i]?) ?_; refine EW.eMove ?_; (first | refine EW.eStoreW (k := 2) ?_ | refine EW.eStore (k := 2) ?_); refine EW.eAssign ?_; refine EW.eEnd ?_; (try refine EW.nm ?_))
  all_goals (refine EW.eLeaveP ?_; intro w' hW; refine ⟨?_, hW⟩)
  all_goals
    refine congrArg (fun v => Ending.returned (.tuple #[v, _])) ?_
    generalize H / c = q at *
    generalize (H % c * 18446744073709551616 + lo) / c = r at *
    have h1 : IntKind.i64.wrap q = w128 (q * 18446744073709551616 + r) / 18446744073709551616 := by rw [IntKind.wrap_i64]; unfold w128; omega
    have h2 : r = w128 (q * 18446744073709551616 + r) % 18446744073709551616 := by unfold w128; omega
    show Value.agg #[_, _] = .agg #[_, _]
    rw [← h1, ← h2]
end Go.Proofs.Ytbjogekhedglgaa
namespace Go.Proofs.Ytbjogekhedglgaa
set_option linter.unusedSimpArgs false
set_option linter.unusedVariables false
open Go.RowKit EV
open SX (Wr Tv Qu Rm Sh Is conjP eqs_iff eqs_false)
open EW (PlL PlT PlV PlVs LfV Mm Bt Opn GV nums)
set_option maxRecDepth 20000
theorem w2_alt {a b z : Int} (h1 : a = z / 18446744073709551616) (h2 : b = z % 18446744073709551616) : Value.agg #[.int .i64 a, .int .u64 b] = W2 z := by rw [h1, h2]
theorem w128_bits {z : Int} (hz : In128 z) (hn : z < 0) : (z.natAbs : Int) = w128 (-z) / 18446744073709551616 % 18446744073709551616 * 18446744073709551616 + w128 (-z) % 18446744073709551616 := by
  rw [show (z.natAbs : Int) = -z from by omega]; unfold In128 at hz; unfold w128; omega
theorem pos_bits {z : Int} (hz : In128 z) (hn : 0 ≤ z) : (z.natAbs : Int) = z / 18446744073709551616 % 18446744073709551616 * 18446744073709551616 + z % 18446744073709551616 := by
  rw [show (z.natAbs : Int) = z from by omega]; unfold In128 at hz; omega
end Go.Proofs.Ytbjogekhedglgaa
