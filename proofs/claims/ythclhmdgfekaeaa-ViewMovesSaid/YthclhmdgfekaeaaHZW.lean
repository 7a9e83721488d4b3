/- Package wide: calls of functions without a body, carries, numbers of 128 bits. Package wide: Of, size, turned, plus, Add, Mul. Package wide: Add, Sub, Mul, parts, Int, Cmp, Sign, Div, MulDiv. Package wide: Div, MulDiv. -/
import Derived.Test.YthclhmdgfekaeaaHZG
import Derived.Test.YthclhmdgfekaeaaHDiv64
import Derived.Shelf.Spec.BitsCarry
namespace Go.Proofs.Ythclhmdgfekaeaa
set_option linter.unusedSimpArgs false
set_option linter.unusedVariables false
open Go.RowKit Go.Shelf EV
open SX (Wr Tv Qu Rm Sh Is conjP eqs_iff eqs_false)
open EW (PlL PlT PlV PlVs LfV Mm Bt Opn GV RX)
theorem add64 (x y c : Int) (hx : 0 ≤ x) (hx' : x < 18446744073709551616) (hy : 0 ≤ y) (hy' : y < 18446744073709551616) (hc0 : 0 ≤ c) (hc : c ≤ 1) (w : World) : (callFunc 88 #[.int .u64 x, .int .u64 y, .int .u64 c]).run Try.prog w =
    .ok (.value (.tuple #[.int .u64 ((x + y + c) % 18446744073709551616), .int .u64 ((x + y + c) / 18446744073709551616)])) w := by
  obtain ⟨x, rfl⟩ := Int.eq_ofNat_of_zero_le hx
  obtain ⟨y, rfl⟩ := Int.eq_ofNat_of_zero_le hy
  obtain ⟨c, rfl⟩ := Int.eq_ofNat_of_zero_le hc0
  rw [run_callFunc_extern Try.func88 (by kernel_rfl) (by kernel_rfl) (by kernel_rfl) (e := add64Entry) (by kernel_rfl), run_add64 x y c (by omega) (by omega) (by omega) (by omega)]
  simp only [Result.andThen]
theorem sub64 (x y b : Int) (hx : 0 ≤ x) (hy : 0 ≤ y) (hy' : y < 18446744073709551616) (hb0 : 0 ≤ b) (hb : b ≤ 1) (w : World) : (callFunc 86 #[.int .u64 x, .int .u64 y, .int .u64 b]).run Try.prog w =
    .ok (.value (.tuple #[.int .u64 ((x - y - b) % 18446744073709551616), .int .u64 (if x < y + b then 1 else 0)])) w := by
  obtain ⟨x, rfl⟩ := Int.eq_ofNat_of_zero_le hx
  obtain ⟨y, rfl⟩ := Int.eq_ofNat_of_zero_le hy
  obtain ⟨b, rfl⟩ := Int.eq_ofNat_of_zero_le hb0
  have e1 : (((x + 18446744073709551616 - y - b) % 18446744073709551616 : Nat) : Int) = ((x : Int) - y - b) % 18446744073709551616 := by omega
  have e2 : ((if x < y + b then 1 else 0 : Nat) : Int) = if (x : Int) < y + b then 1 else 0 := by split <;> split <;> omega
  rw [← e1, ← e2, run_callFunc_extern Try.func86 (by kernel_rfl) (by kernel_rfl) (by kernel_rfl) (e := sub64Entry) (by kernel_rfl), run_sub64 x y b (by omega)]
  rfl
theorem mul64_any (x y : Int) (w : World) (h0 : 0 ≤ x) (h1 : x < 18446744073709551616) (h2 : 0 ≤ y) (h3 : y < 18446744073709551616) :
    Calls Try.prog 84 #[.int .u64 x, .int .u64 y] w fun e w' => e = .returned (.tuple #[.int .u64 (x * y / 18446744073709551616), .int .u64 (x * y % 18446744073709551616)]) ∧ Below w.heap.size w w' := by
  obtain ⟨x, rfl⟩ := Int.eq_ofNat_of_zero_le h0
  obtain ⟨y, rfl⟩ := Int.eq_ofNat_of_zero_le h2
  refine (Try.bits_Mul64 x y (by omega) (by omega) w).mono ?_
  rintro e w' ⟨rfl, rfl⟩
  exact ⟨by rw [Int.natCast_ediv, Int.natCast_emod, Int.natCast_mul]; rfl, Below.refl _ _⟩
theorem div64_c (hi lo y : Int) (w : World) (hhi : 0 ≤ hi) (hlo : 0 ≤ lo) (hlo' : lo < 18446744073709551616) (hy : hi < y) (hy' : y < 18446744073709551616) :
    Calls Try.prog 87 #[.int .u64 hi, .int .u64 lo, .int .u64 y] w fun e w' => e = .returned (.tuple #[.int .u64 ((hi * 18446744073709551616 + lo) / y), .int .u64 ((hi * 18446744073709551616 + lo) % y)]) ∧ Below w.heap.size w w' := by
  refine (div64_any hi lo y w hhi hlo hlo' hy hy').mono ?_
  rintro e w' ⟨rfl, n, rfl⟩
  exact ⟨rfl, ⟨rfl, rfl, rfl, Nat.le_refl _, fun _ _ => rfl⟩⟩
section
variable {c : Ctx} {F : Fence} {nn : Nat} {id : Nat} {ops : Array Oper} {draw : Bool} {Q : Exit → Act → World → Prop} {σ0 σ : Sf} {i : Nat} {rest : List Oper} {tr : List Tr} {sup : List Nat}
theorem callV (hF : WideLike F) {f : FuncId} {xs : List Operand} {tys : Array TypeId} {vs : List V} {L : List Value} {ks : List Key} {v : V} {Z : Value} {d : Option Tmp} {rt : TypeId} {pos : String} {af : Array Edge} {g : Option (Nat × Bool)}
    (he : ∀ w, (callFunc f L.toArray).run c.P w = .ok (.value Z) w) (hx : Vals σ xs vs ks) (hl : PlVs vs L) (hv : PlV v Z) (h1 : EW.oneV v = true) (hN : dOk c.N d = true) :
    LocalO c F nn ⟨d, .call ⟨.value (.func f), xs.toArray, tys⟩, rt, pos, af, g⟩ σ ⟨kr ks, putW d v⟩ :=
  LocalO.val hF hN (noDefer rfl) fun s e a w hag hR => ⟨Z, by
    have ee := hl.uniq (EW.Vals.evals hx (fun q hq => hag q (kr_iff.2 hq)) hR)
    simp only [execOp, resolve, invoke, Deferred.ofValue, List.map_toArray, ee, Sem.run_bind, Sem.run_pure, Result.andThen_ok, Act.eval]
    simp only [List.append_toArray, List.nil_append, List.append_nil, he], hv.ok h1, fun n hn => by rw [hv.names] at hn; cases hn⟩
theorem eCallV {d : Tmp} {f : FuncId} {xs : List Operand} {tys : Array TypeId} {vs : List V} {L : List Value} {ks : List Key} {Z : Value} {v : V} {rt : TypeId} {pos : String} {af : Array Edge} {g : Option (Nat × Bool)} {gk : List Key} [hF : WideLike F]
    (he : ∀ w, (callFunc f L.toArray).run c.P w = .ok (.value Z) w)
    (hr : RX c F nn id ops draw Q σ0 (i + 1) rest (upd σ [(.t d, .v v)]) (⟨orR gk (kr ks), [(.t d, .v v)]⟩ :: tr) sup)
    (hG : GOk ops σ g gk := by (first | apply GOk.none | (apply GOk.some; (· rfl); (· rfl); (· (first | with_reducible rfl | with_reducible assumption))))) (hx : Vals σ xs vs ks := by ((repeat (first | apply Vals.nil | (apply Vals.cons; (· rfl)))); done)) (hl : PlVs vs L := by (((repeat (first | apply PlVs.nil | (apply PlVs.cons; (focus (first | (with_reducible exact PlV.a (PlL.map _)) | exact PlV.a (EW.PlL.all (by rfl)) | (apply PlV.a; ((repeat (first | exact PlL.nil | apply PlL.cons)); (first | done | fail))) | (apply PlV.t; ((repeat (first | exact PlT.nil | (apply PlT.row; (focus (first | (with_reducible exact PlL.map _) | exact EW.PlL.all (by rfl) | ((repeat (first | exact PlL.nil | apply PlL.cons)); (first | done | fail))))) | apply PlT.one)); (first | done | fail))) | exact PlV.c))))); (first | done | fail)))) (hv : PlV v Z := by (first | (with_reducible exact PlV.a (PlL.map _)) | exact PlV.a (EW.PlL.all (by rfl)) | (apply PlV.a; ((repeat (first | exact PlL.nil | apply PlL.cons)); (first | done | fail))) | (apply PlV.t; ((repeat (first | exact PlT.nil | (apply PlT.row; (focus (first | (with_reducible exact PlL.map _) | exact EW.PlL.all (by rfl) | ((repeat (first | exact PlL.nil | apply PlL.cons)); (first | done | fail))))) | apply PlT.one)); (first | done | fail))) | exact PlV.c)) (h1 : EW.oneV v = true := by rfl) (hN : dOk c.N (some d) = true := by rfl) :
    RX c F nn id ops draw Q σ0 i (⟨some d, .call ⟨.value (.func f), xs.toArray, tys⟩, rt, pos, af, g⟩ :: rest) σ tr sup :=
  EW.RX_o (t := ⟨kr ks, [(.t d, .v v)]⟩) hr hG (callV hF he hx hl hv h1 hN)
end
/-- A number as one of 128 bits with a sign. -/
def w128 (z : Int) : Int := (z + 170141183460469231731687303715884105728) % 340282366920938463463374607431768211456 - 170141183460469231731687303715884105728
abbrev In128 (z : Int) : Prop := -170141183460469231731687303715884105728 ≤ z ∧ z < 170141183460469231731687303715884105728
theorem w128_in {z : Int} (h : In128 z) : w128 z = z := by unfold w128; omega
theorem w128_bounds (z : Int) : In128 (w128 z) := by unfold In128 w128; omega
theorem w2_eq {a b z : Int} (h1 : a = z / 18446744073709551616) (h2 : b = z % 18446744073709551616) : Ending.returned (.agg #[.int .i64 a, .int .u64 b]) = Ending.returned (W2 z) := by rw [h1, h2]
theorem abs_prod {a b : Int} (ha0 : -9223372036854775808 ≤ a) (ha1 : a ≤ 9223372036854775807) (hb0 : -9223372036854775808 ≤ b) (hb1 : b ≤ 9223372036854775807) :
    0 ≤ (a.natAbs : Int) * b.natAbs ∧ (a.natAbs : Int) * b.natAbs ≤ 85070591730234615865843651857942052864 := by
  have h1 : a.natAbs * b.natAbs ≤ 9223372036854775808 * 9223372036854775808 := Nat.mul_le_mul (by omega) (by omega)
  have h2 : ((a.natAbs * b.natAbs : Nat) : Int) = (a.natAbs : Int) * b.natAbs := by push_cast; rfl
  rw [← h2]; omega
theorem prod_same {a b : Int} (h : (a < 0) ↔ (b < 0)) : (a.natAbs : Int) * b.natAbs = a * b := by
  rcases Int.lt_or_le a 0 with ha | ha
  · have hb := h.1 ha
    rw [Int.ofNat_natAbs_of_nonpos (by omega), Int.ofNat_natAbs_of_nonpos (by omega), Int.neg_mul_neg]
  · have hb : 0 ≤ b := by omega
    rw [Int.natAbs_of_nonneg ha, Int.natAbs_of_nonneg hb]
theorem prod_other {a b : Int} (h : ¬ ((a < 0) ↔ (b < 0))) : (a.natAbs : Int) * b.natAbs = -(a * b) := by
  rcases Int.lt_or_le a 0 with ha | ha
  · have hb : 0 ≤ b := by omega
    rw [Int.ofNat_natAbs_of_nonpos (by omega), Int.natAbs_of_nonneg hb, Int.neg_mul]
  · have hb : b < 0 := by omega
    rw [Int.natAbs_of_nonneg ha, Int.ofNat_natAbs_of_nonpos (by omega), Int.mul_neg]
theorem prod128 {a b : Int} (ha0 : -9223372036854775808 ≤ a) (ha1 : a ≤ 9223372036854775807) (hb0 : -9223372036854775808 ≤ b) (hb1 : b ≤ 9223372036854775807) : In128 (a * b) := by
  obtain ⟨h1, h2⟩ := abs_prod ha0 ha1 hb0 hb1
  have e : ((a * b).natAbs : Int) = (a.natAbs : Int) * b.natAbs := by rw [Int.natAbs_mul, Int.natCast_mul]
  unfold In128; omega
end Go.Proofs.Ythclhmdgfekaeaa
namespace Go.Proofs.Ythclhmdgfekaeaa
set_option linter.unusedSimpArgs false
set_option linter.unusedVariables false
open Go.RowKit EV
open SX (Wr Tv Qu Rm Sh Is conjP eqs_iff eqs_false)
open EW (PlL PlT PlV PlVs LfV Mm Bt Opn GV nums)
set_option maxRecDepth 20000
theorem wof (n : Int) (w : World) (h0 : -9223372036854775808 ≤ n) (h1 : n ≤ 9223372036854775807) : Calls Try.prog 83 #[.int .i64 n] w fun e w' => e = .returned (W2 n) ∧ Below w.heap.size w w' := by
  refine EW.eEnter Try.func83 rfl Try.ntmps83 ?_
  all_goals try (refine EW.nm ?_)
  all_goals try ((first | refine EW.eRegL (id := 0) ?_ | refine EW.eReg (id := 0) ?_); refine EW.eAlloc ?_; refine EW.eEnd ?_; (try refine EW.nm ?_))
  all_goals try ((first | refine EW.eRegL (id := 1) ?_ | refine EW.eReg (id := 1) ?_); refine EW.eMove ?_; refine EW.eShr ?_; refine EW.eMove ?_; refine EW.eConv ?_; refine EW.eBuild (place := fun i => [(0, 1), (1, 1)][i]?) ?_; (first | refine EW.eStoreW (k := 2) ?_ | refine EW.eStore (k := 2) ?_); refine EW.eEnd ?_; (try refine EW.nm ?_))
  all_goals try (with_reducible refine EW.parkK ?_)
  all_goals try (refine EW.Park.mk ?_)
  all_goals (refine EW.eLeaveP ?_; intro w' hW; refine ⟨?_, hW⟩)
  all_goals exact w2_eq (by omega) rfl
theorem wsize (n : Int) (w : World) (h0 : -9223372036854775808 ≤ n) (h1 : n ≤ 9223372036854775807) : Calls Try.prog 81 #[.int .i64 n] w fun e w' => e = .returned (.int .u64 (n.natAbs : Int)) ∧ Below w.heap.size w w' := by
  refine EW.eEnter Try.func81 rfl Try.ntmps81 ?_
  all_goals try (refine EW.nm ?_)
  all_goals try ((first | refine EW.eRegL (id := 0) ?_ | refine EW.eReg (id := 0) ?_); refine EW.eAssign ?_; refine EW.eEnd ?_; (try refine EW.nm ?_))
  all_goals try ((first | refine EW.eRegL (id := 1) ?_ | refine EW.eReg (id := 1) ?_); refine EW.eMove ?_; refine EW.eLss ?_; refine EW.eEnd ?_; (try refine EW.nm ?_))
  all_goals try (first | refine EW.eYes (x := Operand.tmp 4) ?_ | refine EW.eNo (x := Operand.tmp 4) ?_ | (refine EW.eCond (x := Operand.tmp 4) ?_ ?_ <;> (intro hb hb'; (try dsimp only at hb'); (try (exfalso; first | omega | with_reducible exact absurd rfl hb')))))
  all_goals try (refine EW.nm ?_)
  all_goals try ((first | refine EW.eRegL (id := 2) ?_ | refine EW.eReg (id := 2) ?_); refine EW.eMove ?_; refine EW.eConv ?_; refine EW.eNeg ?_; refine EW.eAssign ?_; refine EW.eEnd ?_; (try refine EW.nm ?_))
  all_goals try (with_reducible refine EW.parkK ?_)
  all_goals try ((first | refine EW.eRegL (id := 3) ?_ | refine EW.eReg (id := 3) ?_); refine EW.eMove ?_; refine EW.eConv ?_; refine EW.eAssign ?_; refine EW.eEnd ?_; (try refine EW.nm ?_))
  all_goals try (with_reducible refine EW.parkK ?_)
  all_goals try (refine EW.Park.mk ?_)
  all_goals (refine EW.eLeaveP ?_; intro w' hW; refine ⟨?_, hW⟩)
  all_goals (refine congrArg (fun n => Ending.returned (.int .u64 n)) ?_; omega)
theorem wturned (z : Int) (w : World) (hz : In128 z) : Calls Try.prog 79 #[W2 z] w fun e w' => e = .returned (W2 (w128 (-z))) ∧ Below w.heap.size w w' := by
  obtain ⟨b, hb, hb0, hb1⟩ : ∃ b : Int, (if 0 < z % 18446744073709551616 + 0 then (1 : Int) else 0) = b ∧ 0 ≤ b ∧ b ≤ 1 := ⟨_, rfl, by split <;> omega, by split <;> omega⟩
  have s1 := sub64 0 (z % 18446744073709551616) 0 (by omega) (by omega) (by omega) (by omega) (by omega)
  rw [hb] at s1
  have s2 := sub64 0 (z / 18446744073709551616 % 18446744073709551616) b (by omega) (by omega) (by omega) hb0 hb1
  refine EW.eEnter Try.func79 rfl Try.ntmps79 ?_
  all_goals try (refine EW.nm ?_)
  all_goals try ((first | refine EW.eRegL (id := 0) ?_ | refine EW.eReg (id := 0) ?_); refine EW.eBox ?_; refine EW.eAlloc ?_; refine EW.eEnd ?_; (try refine EW.nm ?_))
  all_goals try ((first | refine EW.eRegL (id := 1) ?_ | refine EW.eReg (id := 1) ?_); refine EW.eFieldAddr (k := 1) ?_; refine EW.eLoad1 ?_; (first | (refine eCallV s1 ?_) | (refine eCallV s2 ?_)); refine EW.eMove ?_; (first | refine EW.eExtC ?_ | refine EW.eExtA ?_); (first | refine EW.eExtC ?_ | refine EW.eExtA ?_); refine EW.eAssign ?_; refine EW.eAssign ?_; refine EW.eEnd ?_; (try refine EW.nm ?_))
  all_goals try ((first | refine EW.eRegL (id := 2) ?_ | refine EW.eReg (id := 2) ?_); refine EW.eFieldAddr (k := 1) ?_; refine EW.eLoad1 ?_; refine EW.eConv ?_; refine EW.eMove ?_; (first | (refine eCallV s1 ?_) | (refine eCallV s2 ?_)); refine EW.eMove ?_; (first | refine EW.eExtC ?_ | refine EW.eExtA ?_); (first | refine EW.eExtC ?_ | refine EW.eExtA ?_); refine EW.eAssign ?_; refine EW.eAssign ?_; refine EW.eEnd ?_; (try refine EW.nm ?_))
  all_goals try ((first | refine EW.eRegL (id := 3) ?_ | refine EW.eReg (id := 3) ?_); refine EW.eMove ?_; refine EW.eConv ?_; refine EW.eMove ?_; refine EW.eBuild (place := fun i => [(0, 1), (1, 1)][i]?) ?_; (first | refine EW.eStoreW (k := 2) ?_ | refine EW.eStore (k := 2) ?_); refine EW.eEnd ?_; (try refine EW.nm ?_))
  all_goals try (with_reducible refine EW.parkK ?_)
  all_goals try (refine EW.Park.mk ?_)
  all_goals (refine EW.eLeaveP ?_; intro w' hW; refine ⟨?_, hW⟩)
  all_goals refine w2_eq ?_ ?_
  all_goals unfold w128
  all_goals unfold In128 at hz
  · rw [IntKind.wrap_i64]; split at hb <;> subst hb <;> omega
  · omega
theorem wplus (x y : Int) (w : World) (hx : In128 x) (hy : In128 y) : Calls Try.prog 82 #[W2 x, W2 y] w fun e w' => e = .returned (W2 (w128 (x + y))) ∧ Below w.heap.size w w' := by
  have s1 := add64 (x % 18446744073709551616) (y % 18446744073709551616) 0 (by omega) (by omega) (by omega) (by omega) (by omega) (by omega)
  refine EW.eEnter Try.func82 rfl Try.ntmps82 ?_
  all_goals try (refine EW.nm ?_)
  all_goals try ((first | refine EW.eRegL (id := 0) ?_ | refine EW.eReg (id := 0) ?_); refine EW.eBox ?_; refine EW.eBox ?_; refine EW.eAlloc ?_; refine EW.eEnd ?_; (try refine EW.nm ?_))
  all_goals try ((first | refine EW.eRegL (id := 1) ?_ | refine EW.eReg (id := 1) ?_); refine EW.eFieldAddr (k := 1) ?_; refine EW.eLoad1 ?_; refine EW.eFieldAddr (k := 1) ?_; refine EW.eLoad1 ?_; (first | (refine eCallV s1 ?_)); refine EW.eMove ?_; (first | refine EW.eExtC ?_ | refine EW.eExtA ?_); (first | refine EW.eExtC ?_ | refine EW.eExtA ?_); refine EW.eAssign ?_; refine EW.eAssign ?_; refine EW.eEnd ?_; (try refine EW.nm ?_))
  all_goals try ((first | refine EW.eRegL (id := 2) ?_ | refine EW.eReg (id := 2) ?_); refine EW.eFieldAddr (k := 1) ?_; refine EW.eLoad1 ?_; refine EW.eFieldAddr (k := 1) ?_; refine EW.eLoad1 ?_; refine EW.eAdd ?_; refine EW.eMove ?_; refine EW.eConv ?_; refine EW.eAdd ?_; refine EW.eMove ?_; refine EW.eBuild (place := fun i => [(0, 1), (1, 1)][i]?) ?_; (first | refine EW.eStoreW (k := 2) ?_ | refine EW.eStore (k := 2) ?_); refine EW.eEnd ?_; (try refine EW.nm ?_))
  all_goals try (with_reducible refine EW.parkK ?_)
  all_goals try (refine EW.Park.mk ?_)
  all_goals (refine EW.eLeaveP ?_; intro w' hW; refine ⟨?_, hW⟩)
  all_goals refine w2_eq ?_ ?_
  all_goals unfold w128
  all_goals unfold In128 at hx hy
  · simp only [IntKind.wrap_i64]; omega
  · omega
end Go.Proofs.Ythclhmdgfekaeaa
namespace Go.Proofs.Ythclhmdgfekaeaa
set_option linter.unusedSimpArgs false
set_option linter.unusedVariables false
open Go.RowKit EV
open SX (Wr Tv Qu Rm Sh Is conjP eqs_iff eqs_false)
open EW (PlL PlT PlV PlVs LfV Mm Bt Opn GV nums)
set_option maxRecDepth 20000
def wV (z : Int) : Int := if In128 z then z else 0
def wE (z : Int) : Int := if In128 z then 0 else 20
theorem add_fin {z : Int} (h : In128 z) : Ending.returned (.tuple #[W2 (w128 z), .int .i64 0]) = Ending.returned (.tuple #[W2 (wV z), .int .i64 (wE z)]) := by
  rw [wV, wE, if_pos h, if_pos h, w128_in h]
theorem add_finN {z : Int} (h : ¬ In128 z) : Ending.returned (.tuple #[.agg #[.int .i64 0, .int .u64 0], .int .i64 20]) = Ending.returned (.tuple #[W2 (wV z), .int .i64 (wE z)]) := by
  rw [wV, wE, if_neg h, if_neg h]; rfl
theorem wadd (x y : Int) (w : World) (hx : In128 x) (hy : In128 y) : Calls Try.prog 78 #[W2 x, W2 y] w fun e w' => e = .returned (.tuple #[W2 (wV (x + y)), .int .i64 (wE (x + y))]) ∧ Below w.heap.size w w' := by
  obtain ⟨z, hz⟩ : ∃ z, w128 (x + y) = z := ⟨_, rfl⟩
  have hP := fun w => wplus x y w hx hy
  rw [hz] at hP
  refine EW.eEnter Try.func78 rfl Try.ntmps78 ?_
  all_goals try (refine EW.nm ?_)
  all_goals try ((first | refine EW.eRegL (id := 0) ?_ | refine EW.eReg (id := 0) ?_); refine EW.eBox ?_; refine EW.eBox ?_; refine EW.eAlloc ?_; refine EW.eAssign ?_; refine EW.eEnd ?_; (try refine EW.nm ?_))
  all_goals try ((first | refine EW.eRegL (id := 1) ?_ | refine EW.eReg (id := 1) ?_); refine EW.eLoadA (k := 2) ?_; refine EW.eLoadA (k := 2) ?_; refine EW.eCall Try.call82 (fun w => hP w) ?_; refine EW.eAlloc ?_; (first | refine EW.eStoreW (k := 2) ?_ | refine EW.eStore (k := 2) ?_); refine EW.eEnd ?_; (try refine EW.nm ?_))
  all_goals try ((first | refine EW.eRegL (id := 2) ?_ | refine EW.eReg (id := 2) ?_); refine EW.eFieldAddr (k := 1) ?_; refine EW.eLoad1 ?_; refine EW.eLss ?_; refine EW.eFieldAddr (k := 1) ?_; refine EW.eLoad1 ?_; refine EW.eLss ?_; refine EW.eEqlB ?_; refine EW.eMove ?_)
  all_goals try (refine EW.eGuard (j := 7) (o := ⟨some 18, _, _, _, _, _⟩) ?_ ?_ <;> (intro hb hb'; (try dsimp only at hb'); (try (exfalso; first | omega | with_reducible exact absurd rfl hb'))))
  all_goals try ((first | refine EW.eSkipT (j := 7) ?_ | refine EW.eSkipU (j := 7) ?_ | refine EW.eFieldAddr (k := 1) ?_); (first | refine EW.eSkipT (j := 7) ?_ | refine EW.eSkipU (j := 7) ?_ | refine EW.eLoad1 ?_); (first | refine EW.eSkipT (j := 7) ?_ | refine EW.eSkipU (j := 7) ?_ | refine EW.eLss ?_); (first | refine EW.eSkipT (j := 7) ?_ | refine EW.eSkipU (j := 7) ?_ | refine EW.eFieldAddr (k := 1) ?_); (first | refine EW.eSkipT (j := 7) ?_ | refine EW.eSkipU (j := 7) ?_ | refine EW.eLoad1 ?_); (first | refine EW.eSkipT (j := 7) ?_ | refine EW.eSkipU (j := 7) ?_ | refine EW.eLss ?_); (first | refine EW.eSkipT (j := 7) ?_ | refine EW.eSkipU (j := 7) ?_ | refine EW.eNeqB ?_); (first | refine EW.ePickT ?_ | refine EW.ePickF ?_); refine EW.eEnd ?_; (try refine EW.nm ?_))
  all_goals try (first | refine EW.eYes (x := Operand.tmp 25) ?_ | refine EW.eNo (x := Operand.tmp 25) ?_ | (refine EW.eCond (x := Operand.tmp 25) ?_ ?_ <;> (intro hb hb'; (try dsimp only at hb'); (try (exfalso; first | omega | with_reducible exact absurd rfl hb')))))
  all_goals try (refine EW.nm ?_)
  all_goals try ((first | refine EW.eRegL (id := 3) ?_ | refine EW.eReg (id := 3) ?_); refine EW.eBuild (place := fun i => [(0, 1), (1, 1)][i]?) ?_; (first | refine EW.eStoreW (k := 2) ?_ | refine EW.eStore (k := 2) ?_); refine EW.eAssign ?_; refine EW.eEnd ?_; (try refine EW.nm ?_))
  all_goals try (with_reducible refine EW.parkK ?_)
  all_goals try ((first | refine EW.eRegL (id := 4) ?_ | refine EW.eReg (id := 4) ?_); refine EW.eLoadA (k := 2) ?_; (first | refine EW.eStoreW (k := 2) ?_ | refine EW.eStore (k := 2) ?_); refine EW.eAssign ?_; refine EW.eEnd ?_; (try refine EW.nm ?_))
  all_goals try (with_reducible refine EW.parkK ?_)
  all_goals try (refine EW.Park.mk ?_)
  all_goals (refine EW.eLeaveP ?_; intro w' hW; refine ⟨?_, hW⟩)
  all_goals subst hz
  all_goals (try simp only [decide_eq_decide] at *)
  all_goals first | exact add_finN (by unfold w128 at *; unfold In128 at *; omega) | exact add_fin (by unfold w128 at *; unfold In128 at *; omega)
theorem wmul (a b : Int) (w : World) (ha0 : -9223372036854775808 ≤ a) (ha1 : a ≤ 9223372036854775807) (hb0 : -9223372036854775808 ≤ b) (hb1 : b ≤ 9223372036854775807) : Calls Try.prog 75 #[.int .i64 a, .int .i64 b] w fun e w' => e = .returned (W2 (a * b)) ∧ Below w.heap.size w w' := by
  obtain ⟨p0, p1⟩ := abs_prod ha0 ha1 hb0 hb1
  obtain ⟨p, hp⟩ : ∃ p, (a.natAbs : Int) * b.natAbs = p := ⟨_, rfl⟩
  have h1 := fun w => mul64_any (a.natAbs : Int) (b.natAbs : Int) w (by omega) (by omega) (by omega) (by omega)
  rw [hp] at h1 p0 p1
  have hT := fun w => wturned p w (by unfold In128; omega)
  have hw : IntKind.i64.wrap (p / 18446744073709551616) = p / 18446744073709551616 := by rw [IntKind.wrap_i64]; omega
  refine EW.eEnter Try.func75 rfl Try.ntmps75 ?_
  all_goals try (refine EW.nm ?_)
  all_goals try ((first | refine EW.eRegL (id := 0) ?_ | refine EW.eReg (id := 0) ?_); refine EW.eAlloc ?_; refine EW.eEnd ?_; (try refine EW.nm ?_))
  all_goals try ((first | refine EW.eRegL (id := 1) ?_ | refine EW.eReg (id := 1) ?_); refine EW.eMove ?_; (first | refine EW.eCall Try.call81 (fun w => wsize a w ha0 ha1) ?_ | refine EW.eCall Try.call81 (fun w => wsize b w hb0 hb1) ?_); refine EW.eMove ?_; (first | refine EW.eCall Try.call81 (fun w => wsize a w ha0 ha1) ?_ | refine EW.eCall Try.call81 (fun w => wsize b w hb0 hb1) ?_); refine EW.eCall Try.call84 (fun w => h1 w) ?_; refine EW.eMove ?_; (first | refine EW.eExtC ?_ | refine EW.eExtA ?_); (first | refine EW.eExtC ?_ | refine EW.eExtA ?_); refine EW.eAssign ?_; refine EW.eAssign ?_; refine EW.eEnd ?_; (try refine EW.nm ?_))
  all_goals try ((first | refine EW.eRegL (id := 2) ?_ | refine EW.eReg (id := 2) ?_); refine EW.eMove ?_; refine EW.eConv ?_; refine EW.eMove ?_; refine EW.eBuild (place := fun i => [(0, 1), (1, 1)][i]?) ?_; refine EW.eAlloc ?_; (first | refine EW.eStoreW (k := 2) ?_ | refine EW.eStore (k := 2) ?_); refine EW.eEnd ?_; (try refine EW.nm ?_))
  all_goals try ((first | refine EW.eRegL (id := 3) ?_ | refine EW.eReg (id := 3) ?_); refine EW.eMove ?_; refine EW.eLss ?_; refine EW.eMove ?_; refine EW.eLss ?_; refine EW.eNeqB ?_; refine EW.eEnd ?_; (try refine EW.nm ?_))
  all_goals try (first | refine EW.eYes (x := Operand.tmp 24) ?_ | refine EW.eNo (x := Operand.tmp 24) ?_ | (refine EW.eCond (x := Operand.tmp 24) ?_ ?_ <;> (intro hb hb'; (try dsimp only at hb'); (try (exfalso; first | omega | with_reducible exact absurd rfl hb')))))
  all_goals try (refine EW.nm ?_)
  all_goals try ((first | refine EW.eRegL (id := 4) ?_ | refine EW.eReg (id := 4) ?_); refine EW.eLoadA (k := 2) ?_; refine EW.eCall Try.call79 (fun w => hT w) ?_; (first | refine EW.eStoreW (k := 2) ?_ | refine EW.eStore (k := 2) ?_); refine EW.eEnd ?_; (try refine EW.nm ?_))
  all_goals try (with_reducible refine EW.parkK ?_)
  all_goals try ((first | refine EW.eRegL (id := 5) ?_ | refine EW.eReg (id := 5) ?_); refine EW.eLoadA (k := 2) ?_; (first | refine EW.eStoreW (k := 2) ?_ | refine EW.eStore (k := 2) ?_); refine EW.eEnd ?_; (try refine EW.nm ?_))
  all_goals try (with_reducible refine EW.parkK ?_)
  all_goals try (refine EW.Park.mk ?_)
  all_goals (refine EW.eLeaveP ?_; intro w' hW; refine ⟨?_, hW⟩)
  all_goals (try simp only [decide_eq_decide] at *)
  · have := prod_other (a := a) (b := b) (by assumption)
    rw [show w128 (-p) = a * b from by rw [w128_in (by unfold In128; omega)]; omega]
  · have := prod_same (a := a) (b := b) (by assumption)
    rw [show p = a * b from by omega]
theorem wint (z : Int) (w : World) (hz : In128 z) : Calls Try.prog 72 #[W2 z] w fun e w' => e = .returned (.tuple #[.int .i64 (if -9223372036854775808 ≤ z ∧ z ≤ 9223372036854775807 then z else 0), .int .i64 (if -9223372036854775808 ≤ z ∧ z ≤ 9223372036854775807 then 0 else 20)]) ∧ Below w.heap.size w w' := by
  obtain ⟨n, hn⟩ : ∃ n, IntKind.i64.wrap (z % 18446744073709551616) = n := ⟨_, rfl⟩
  have hn2 := hn
  rw [IntKind.wrap_i64] at hn2
  have hw : Wr .i64 (z % 18446744073709551616) n := ⟨hn⟩
  refine EW.eEnter Try.func72 rfl Try.ntmps72 ?_
  all_goals try (refine EW.nm ?_)
  all_goals try ((first | refine EW.eRegL (id := 0) ?_ | refine EW.eReg (id := 0) ?_); refine EW.eBox ?_; refine EW.eAssign ?_; refine EW.eAssign ?_; refine EW.eEnd ?_; (try refine EW.nm ?_))
  all_goals try ((first | refine EW.eRegL (id := 1) ?_ | refine EW.eReg (id := 1) ?_); refine EW.eFieldAddr (k := 1) ?_; refine EW.eLoad1 ?_; refine EW.eConv ?_ (hr' := hw); refine EW.eAssign ?_; refine EW.eEnd ?_; (try refine EW.nm ?_))
  all_goals try ((first | refine EW.eRegL (id := 2) ?_ | refine EW.eReg (id := 2) ?_); refine EW.eMove ?_; refine EW.eCall Try.call83 (fun w => wof n w (by omega) (by omega)) ?_; refine EW.eLoadA (k := 2) ?_; refine EW.eEqlA ?_; refine EW.eDraw ?_; (try refine EW.nm ?_))
  all_goals try (first | refine EW.eYes (x := Operand.tmp 11) ?_ | refine EW.eNo (x := Operand.tmp 11) ?_ | (refine EW.eCond (x := Operand.tmp 11) ?_ ?_ <;> (intro hb hb'; (try dsimp only at hb'); (try (exfalso; first | omega | with_reducible exact absurd rfl hb')))))
  all_goals try (refine EW.nm ?_)
  all_goals try ((first | refine EW.eRegL (id := 3) ?_ | refine EW.eReg (id := 3) ?_); refine EW.eMove ?_; refine EW.eAssign ?_; refine EW.eAssign ?_; refine EW.eEnd ?_; (try refine EW.nm ?_))
  all_goals try (with_reducible refine EW.parkK ?_)
  all_goals try ((first | refine EW.eRegL (id := 4) ?_ | refine EW.eReg (id := 4) ?_); refine EW.eAssign ?_; refine EW.eAssign ?_; refine EW.eEnd ?_; (try refine EW.nm ?_))
  all_goals try (with_reducible refine EW.parkK ?_)
  all_goals try (refine EW.Park.mk ?_)
  all_goals (refine EW.eLeaveP ?_; intro w' hW; refine ⟨?_, hW⟩)
  · obtain rfl : n = z := by omega
    rw [if_pos (by omega), if_pos (by omega)]
  · rw [if_neg (by unfold In128 at hz; omega), if_neg (by unfold In128 at hz; omega)]
/-- The quotient and the rest. -/
def dE (z c : Int) : Int := if c = 0 then 21 else if In128 (z.fdiv c) then 0 else 20
def dQ (z c : Int) : Int := if c = 0 then 0 else if In128 (z.fdiv c) then z.fdiv c else 0
def dR (z c : Int) : Int := if c = 0 then 0 else if In128 (z.fdiv c) then z - z.fdiv c * c else 0
theorem parts_math {H lo c : Int} (hH : 0 ≤ H) (hH' : H < 18446744073709551616) (h2 : 0 ≤ lo) (h3 : lo < 18446744073709551616) (hc : 0 < c) :
    (H * 18446744073709551616 + lo) / c = H / c * 18446744073709551616 + (H % c * 18446744073709551616 + lo) / c ∧ (H * 18446744073709551616 + lo) % c = (H % c * 18446744073709551616 + lo) % c ∧
    0 ≤ (H % c * 18446744073709551616 + lo) / c ∧ (H % c * 18446744073709551616 + lo) / c < 18446744073709551616 ∧ 0 ≤ H / c ∧ H / c ≤ H := by
  have e1 := Int.mul_ediv_add_emod H c
  have e2 : H * 18446744073709551616 + lo = (H % c * 18446744073709551616 + lo) + c * (H / c * 18446744073709551616) := by
    rw [← Int.mul_assoc]; omega
  have m0 := Int.emod_nonneg H (show c ≠ 0 by omega)
  have m1 := Int.emod_lt_of_pos H hc
  refine ⟨?_, ?_, Int.ediv_nonneg (by omega) (by omega), Int.ediv_lt_of_lt_mul hc (by omega), Int.ediv_nonneg hH (by omega), Int.ediv_le_self _ hH⟩
  · rw [e2, Int.add_mul_ediv_left _ _ (show c ≠ 0 by omega)]; omega
  · rw [e2, Int.add_mul_emod_self_left]
/-- x: the number's bits, as one without a sign. -/
theorem wparts (z x c : Int) (w : World) (hz : In128 z) (hx : x = z / 18446744073709551616 % 18446744073709551616 * 18446744073709551616 + z % 18446744073709551616) (hc : 0 < c) (hc' : c < 18446744073709551616) : Calls Try.prog 80 #[W2 z, .int .u64 c] w fun e w' => e = .returned (.tuple #[W2 (w128 (x / c)), .int .u64 (x % c)]) ∧ Below w.heap.size w w' := by
  obtain ⟨H, hH⟩ : ∃ H, z / 18446744073709551616 % 18446744073709551616 = H := ⟨_, rfl⟩
  obtain ⟨lo, hlo⟩ : ∃ lo, z % 18446744073709551616 = lo := ⟨_, rfl⟩
  have g0 : 0 ≤ H ∧ H < 18446744073709551616 ∧ 0 ≤ lo ∧ lo < 18446744073709551616 := by omega
  obtain ⟨g1, g2, g3, g4⟩ := g0
  obtain ⟨e1, e2, e3, e4, e5, e6⟩ := parts_math g1 g2 g3 g4 hc
  have m0 := Int.emod_nonneg H (show c ≠ 0 by omega)
  have m1 := Int.emod_lt_of_pos H hc
  have d1 := fun w => div64_c 0 H c w (by omega) g1 g2 hc hc'
  rw [Int.zero_mul, Int.zero_add] at d1
  have d2 := fun w => div64_c (H % c) lo c w m0 g3 g4 m1 hc'
  rw [hH, hlo] at hx
  rw [hx, e2, e1]
  have hw : Wr .u64 (z / 18446744073709551616) H := ⟨by rw [IntKind.wrap_u64, hH]⟩
  show Calls _ _ #[.agg #[.int .i64 (z / 18446744073709551616), .int .u64 (z % 18446744073709551616)], _] _ _
  rw [hlo]
  refine EW.eEnter Try.func80 rfl Try.ntmps80 ?_
  all_goals try (refine EW.nm ?_)
  all_goals try ((first | refine EW.eRegL (id := 0) ?_ | refine EW.eReg (id := 0) ?_); refine EW.eBox ?_; refine EW.eAlloc ?_; refine EW.eAssign ?_; refine EW.eEnd ?_; (try refine EW.nm ?_))
  all_goals try ((first | refine EW.eRegL (id := 1) ?_ | refine EW.eReg (id := 1) ?_); refine EW.eFieldAddr (k := 1) ?_; refine EW.eLoad1 ?_; refine EW.eConv ?_ (hr' := hw); refine EW.eMove ?_; (first | refine EW.eCall Try.call87 (fun w => d1 w) ?_ | refine EW.eCall Try.call87 (fun w => d2 w) ?_); refine EW.eMove ?_; (first | refine EW.eExtC ?_ | refine EW.eExtA ?_); (first | refine EW.eExtC ?_ | refine EW.eExtA ?_); refine EW.eAssign ?_; refine EW.eAssign ?_; refine EW.eEnd ?_; (try refine EW.nm ?_))
  all_goals try ((first | refine EW.eRegL (id := 2) ?_ | refine EW.eReg (id := 2) ?_); refine EW.eMove ?_; refine EW.eFieldAddr (k := 1) ?_; refine EW.eLoad1 ?_; refine EW.eMove ?_; (first | refine EW.eCall Try.call87 (fun w => d1 w) ?_ | refine EW.eCall Try.call87 (fun w => d2 w) ?_); refine EW.eMove ?_; (first | refine EW.eExtC ?_ | refine EW.eExtA ?_); (first | refine EW.eExtC ?_ | refine EW.eExtA ?_); refine EW.eAssign ?_; refine EW.eAssign ?_; refine EW.eEnd ?_; (try refine EW.nm ?_))
  all_goals try ((first | refine EW.eRegL (id := 3) ?_ | refine EW.eReg (id := 3) ?_); refine EW.eMove ?_; refine EW.eConv ?_; refine EW.eMove ?_; refine EW.eBuild (place := fun i => [(0, 1), (1, 1)][i]?) ?_; refine EW.eMove ?_; (first | refine EW.eStoreW (k := 2) ?_ | refine EW.eStore (k := 2) ?_); refine EW.eAssign ?_; refine EW.eEnd ?_; (try refine EW.nm ?_))
  all_goals try (with_reducible refine EW.parkK ?_)
  all_goals try (refine EW.Park.mk ?_)
  all_goals (refine EW.eLeaveP ?_; intro w' hW; refine ⟨?_, hW⟩)
  all_goals
    refine congrArg (fun v => Ending.returned (.tuple #[v, _])) ?_
    generalize H / c = q at *
    generalize (H % c * 18446744073709551616 + lo) / c = r at *
    have h1 : IntKind.i64.wrap q = w128 (q * 18446744073709551616 + r) / 18446744073709551616 := by rw [IntKind.wrap_i64]; unfold w128; omega
    have h2 : r = w128 (q * 18446744073709551616 + r) % 18446744073709551616 := by unfold w128; omega
    show Value.agg #[_, _] = .agg #[_, _]
    rw [← h1, ← h2]
end Go.Proofs.Ythclhmdgfekaeaa
namespace Go.Proofs.Ythclhmdgfekaeaa
set_option linter.unusedSimpArgs false
set_option linter.unusedVariables false
open Go.RowKit EV
open SX (Wr Tv Qu Rm Sh Is conjP eqs_iff eqs_false)
open EW (PlL PlT PlV PlVs LfV Mm Bt Opn GV nums)
set_option maxRecDepth 20000
theorem div_ok {z c q r : Int} (hc : c ≠ 0) (hq : z.fdiv c = q) (hi : In128 q) (hr : r = z - q * c) : Ending.returned (.tuple #[W2 q, .int .i64 r, .int .i64 0]) = Ending.returned (.tuple #[W2 (dQ z c), .int .i64 (dR z c), .int .i64 (dE z c)]) := by
  rw [dQ, dR, dE, if_neg hc, if_neg hc, if_neg hc, hq, if_pos hi, if_pos hi, if_pos hi, hr]
theorem div_big {z c q : Int} (hc : c ≠ 0) (hq : z.fdiv c = q) (hi : ¬ In128 q) : Ending.returned (.tuple #[.agg #[.int .i64 0, .int .u64 0], .int .i64 0, .int .i64 20]) = Ending.returned (.tuple #[W2 (dQ z c), .int .i64 (dR z c), .int .i64 (dE z c)]) := by
  rw [dQ, dR, dE, if_neg hc, if_neg hc, if_neg hc, hq, if_neg hi, if_neg hi, if_neg hi]; rfl
/-- What comes out, in letters. -/
def resD (hi c C QH QL R NH NL MH ML : Int) : Value :=
  if (hi < 0) = (c < 0) then (if QH < 0 then .tuple #[.agg #[.int .i64 0, .int .u64 0], .int .i64 0, .int .i64 20] else .tuple #[.agg #[.int .i64 QH, .int .u64 QL], .int .i64 (if c < 0 then -R else R), .int .i64 0])
  else if 0 < R then .tuple #[.agg #[.int .i64 MH, .int .u64 ML], .int .i64 (if c < 0 then -(C - R) else C - R), .int .i64 0]
  else .tuple #[.agg #[.int .i64 NH, .int .u64 NL], .int .i64 (if c < 0 then -R else R), .int .i64 0]
theorem wdiv_walk (hi lo c ah al C QH QL R NH NL OH OL MH ML : Int) (w : World) (hc : c ≠ 0) (hR : 0 ≤ R ∧ R < C) (hC : C = if c < 0 then -c else c) (hb : -9223372036854775808 ≤ c ∧ c ≤ 9223372036854775807)
    (hS : ∀ w, Calls Try.prog 81 #[.int .i64 c] w fun e w' => e = .returned (.int .u64 C) ∧ Below w.heap.size w w')
    (hT : ∀ w, Calls Try.prog 79 #[.agg #[.int .i64 hi, .int .u64 lo]] w fun e w' => e = .returned (.agg #[.int .i64 ah, .int .u64 al]) ∧ Below w.heap.size w w')
    (hP1 : hi < 0 → ∀ w, Calls Try.prog 80 #[.agg #[.int .i64 ah, .int .u64 al], .int .u64 C] w fun e w' => e = .returned (.tuple #[.agg #[.int .i64 QH, .int .u64 QL], .int .u64 R]) ∧ Below w.heap.size w w')
    (hP2 : 0 ≤ hi → ∀ w, Calls Try.prog 80 #[.agg #[.int .i64 hi, .int .u64 lo], .int .u64 C] w fun e w' => e = .returned (.tuple #[.agg #[.int .i64 QH, .int .u64 QL], .int .u64 R]) ∧ Below w.heap.size w w')
    (hT2 : ∀ w, Calls Try.prog 79 #[.agg #[.int .i64 QH, .int .u64 QL]] w fun e w' => e = .returned (.agg #[.int .i64 NH, .int .u64 NL]) ∧ Below w.heap.size w w')
    (hO : ∀ w, Calls Try.prog 83 #[.int .i64 (-1)] w fun e w' => e = .returned (.agg #[.int .i64 OH, .int .u64 OL]) ∧ Below w.heap.size w w')
    (hPl : ∀ w, Calls Try.prog 82 #[.agg #[.int .i64 NH, .int .u64 NL], .agg #[.int .i64 OH, .int .u64 OL]] w fun e w' => e = .returned (.agg #[.int .i64 MH, .int .u64 ML]) ∧ Below w.heap.size w w') :
    Calls Try.prog 71 #[.agg #[.int .i64 hi, .int .u64 lo], .int .i64 c] w fun e w' => e = .returned (resD hi c C QH QL R NH NL MH ML) ∧ Below w.heap.size w w' := by
  obtain ⟨hR0, hR1⟩ := hR
  obtain ⟨hb0, hb1⟩ := hb
  have hC1 : C ≤ 9223372036854775808 := by rw [hC]; split <;> omega
  have hC2 : 0 ≤ c → C ≤ 9223372036854775807 := fun h => by rw [hC, if_neg (by omega)]; exact hb1
  clear hC
  unfold resD
  have n1 : 0 < R → IntKind.i64.wrap ((0 - (C - R)) % 18446744073709551616) = -(C - R) := fun h => by rw [IntKind.wrap_i64]; omega
  have n2 : IntKind.i64.wrap ((0 - R) % 18446744073709551616) = -R := by rw [IntKind.wrap_i64]; omega
  rcases Int.lt_or_le hi 0 with h1 | h1 <;> rcases Int.lt_or_le c 0 with h2 | h2
  · rw [if_pos (by rw [eq_iff_iff]; omega), if_pos h2]
    by_cases h3 : QH < 0
    all_goals
      first | rw [if_pos h3] | rw [if_neg h3]
      refine EW.eEnter Try.func71 rfl Try.ntmps71 ?_
      all_goals try (refine EW.nm ?_)
      all_goals try ((first | refine EW.eRegL (id := 0) ?_ | refine EW.eReg (id := 0) ?_); refine EW.eBox ?_; refine EW.eAlloc ?_; refine EW.eAssign ?_; refine EW.eAssign ?_; refine EW.eEnd ?_; (try refine EW.nm ?_))
      all_goals try ((first | refine EW.eRegL (id := 1) ?_ | refine EW.eReg (id := 1) ?_); refine EW.eMove ?_; refine EW.eEql ?_; refine EW.eEnd ?_; (try refine EW.nm ?_))
      all_goals try (first | refine EW.eYes (x := Operand.tmp 12) ?_ | refine EW.eNo (x := Operand.tmp 12) ?_ | (refine EW.eCond (x := Operand.tmp 12) ?_ ?_ <;> (intro hb hb'; (try dsimp only at hb'); (try (exfalso; first | omega | with_reducible exact absurd rfl hb')))))
      all_goals try (refine EW.nm ?_)
      all_goals try ((first | refine EW.eRegL (id := 2) ?_ | refine EW.eReg (id := 2) ?_); refine EW.eBuild (place := fun i => [(0, 1), (1, 1)][i]?) ?_; (first | refine EW.eStoreW (k := 2) ?_ | refine EW.eStore (k := 2) ?_); refine EW.eAssign ?_; refine EW.eAssign ?_; refine EW.eEnd ?_; (try refine EW.nm ?_))
      all_goals try (with_reducible refine EW.parkK ?_)
      all_goals try ((first | refine EW.eRegL (id := 3) ?_ | refine EW.eReg (id := 3) ?_); refine EW.eFieldAddr (k := 1) ?_; refine EW.eLoad1 ?_; refine EW.eLss ?_; refine EW.eAssign ?_; refine EW.eEnd ?_; (try refine EW.nm ?_))
      all_goals try ((first | refine EW.eRegL (id := 4) ?_ | refine EW.eReg (id := 4) ?_); refine EW.eLoadA (k := 2) ?_; refine EW.eAlloc ?_; (first | refine EW.eStoreW (k := 2) ?_ | refine EW.eStore (k := 2) ?_); refine EW.eEnd ?_; (try refine EW.nm ?_))
      all_goals try ((first | refine EW.eRegL (id := 5) ?_ | refine EW.eReg (id := 5) ?_); refine EW.eMove ?_; refine EW.eEnd ?_; (try refine EW.nm ?_))
      all_goals try (first | refine EW.eYes (x := Operand.tmp 18) ?_ | refine EW.eNo (x := Operand.tmp 18) ?_ | (refine EW.eCond (x := Operand.tmp 18) ?_ ?_ <;> (intro hb hb'; (try dsimp only at hb'); (try (exfalso; first | omega | with_reducible exact absurd rfl hb')))))
      all_goals try (refine EW.nm ?_)
      all_goals try ((first | refine EW.eRegL (id := 6) ?_ | refine EW.eReg (id := 6) ?_); refine EW.eLoadA (k := 2) ?_; refine EW.eCall Try.call79 (fun w => hT w) ?_; (first | refine EW.eStoreW (k := 2) ?_ | refine EW.eStore (k := 2) ?_); refine EW.eEnd ?_; (try refine EW.nm ?_))
      all_goals try ((first | refine EW.eRegL (id := 7) ?_ | refine EW.eReg (id := 7) ?_); refine EW.eLoadA (k := 2) ?_; refine EW.eMove ?_; refine EW.eCall Try.call81 (fun w => hS w) ?_; refine EW.eCall Try.call80 (fun w => hP1 h1 w) ?_; refine EW.eMove ?_; (first | refine EW.eExtC ?_ | refine EW.eExtA ?_); (first | refine EW.eExtC ?_ | refine EW.eExtA ?_); refine EW.eAlloc ?_; (first | refine EW.eStoreW (k := 2) ?_ | refine EW.eStore (k := 2) ?_); refine EW.eAssign ?_; refine EW.eDraw ?_; (try refine EW.nm ?_))
      all_goals try ((first | refine EW.eRegL (id := 8) ?_ | refine EW.eReg (id := 8) ?_); refine EW.eMove ?_; refine EW.eMove ?_; refine EW.eLss ?_; refine EW.eNeqB ?_; refine EW.eEnd ?_; (try refine EW.nm ?_))
      all_goals try (first | refine EW.eYes (x := Operand.tmp 31) ?_ | refine EW.eNo (x := Operand.tmp 31) ?_ | (refine EW.eCond (x := Operand.tmp 31) ?_ ?_ <;> (intro hb hb'; (try dsimp only at hb'); (try (exfalso; first | omega | with_reducible exact absurd rfl hb')))))
      all_goals try (refine EW.nm ?_)
      all_goals try ((first | refine EW.eRegL (id := 9) ?_ | refine EW.eReg (id := 9) ?_); refine EW.eLoadA (k := 2) ?_; refine EW.eCall Try.call79 (fun w => hT w) ?_; (first | refine EW.eStoreW (k := 2) ?_ | refine EW.eStore (k := 2) ?_); refine EW.eEnd ?_; (try refine EW.nm ?_))
      all_goals try ((first | refine EW.eRegL (id := 10) ?_ | refine EW.eReg (id := 10) ?_); refine EW.eMove ?_; refine EW.eGtr ?_; refine EW.eEnd ?_; (try refine EW.nm ?_))
      all_goals try (first | refine EW.eYes (x := Operand.tmp 35) ?_ | refine EW.eNo (x := Operand.tmp 35) ?_ | (refine EW.eCond (x := Operand.tmp 35) ?_ ?_ <;> (intro hb hb'; (try dsimp only at hb'); (try (exfalso; first | omega | with_reducible exact absurd rfl hb')))))
      all_goals try (refine EW.nm ?_)
      all_goals try ((first | refine EW.eRegL (id := 11) ?_ | refine EW.eReg (id := 11) ?_); refine EW.eLoadA (k := 2) ?_; fail "no contract of mullion/wide.Of"; fail "no contract of mullion/wide.plus"; refine EW.eMove ?_; refine EW.eCall Try.call81 (fun w => hS w) ?_; refine EW.eMove ?_; refine EW.eSub ?_; (first | refine EW.eStoreW (k := 2) ?_ | refine EW.eStore (k := 2) ?_); refine EW.eAssign ?_; refine EW.eDraw ?_; (try refine EW.nm ?_))
      all_goals try ((first | refine EW.eRegL (id := 12) ?_ | refine EW.eReg (id := 12) ?_); refine EW.eFieldAddr (k := 1) ?_; refine EW.eLoad1 ?_; refine EW.eLss ?_; refine EW.eEnd ?_; (try refine EW.nm ?_))
      all_goals try (first | refine EW.eYes (x := Operand.tmp 45) ?_ | refine EW.eNo (x := Operand.tmp 45) ?_ | (refine EW.eCond (x := Operand.tmp 45) ?_ ?_ <;> (intro hb hb'; (try dsimp only at hb'); (try (exfalso; first | omega | with_reducible exact absurd rfl hb')))))
      all_goals try (refine EW.nm ?_)
      all_goals try ((first | refine EW.eRegL (id := 13) ?_ | refine EW.eReg (id := 13) ?_); refine EW.eBuild (place := fun i => [(0, 1), (1, 1)][i]?) ?_; (first | refine EW.eStoreW (k := 2) ?_ | refine EW.eStore (k := 2) ?_); refine EW.eAssign ?_; refine EW.eAssign ?_; refine EW.eEnd ?_; (try refine EW.nm ?_))
      all_goals try (with_reducible refine EW.parkK ?_)
      all_goals try ((first | refine EW.eRegL (id := 14) ?_ | refine EW.eReg (id := 14) ?_); refine EW.eMove ?_; refine EW.eLss ?_; refine EW.eEnd ?_; (try refine EW.nm ?_))
      all_goals try (first | refine EW.eYes (x := Operand.tmp 48) ?_ | refine EW.eNo (x := Operand.tmp 48) ?_ | (refine EW.eCond (x := Operand.tmp 48) ?_ ?_ <;> (intro hb hb'; (try dsimp only at hb'); (try (exfalso; first | omega | with_reducible exact absurd rfl hb')))))
      all_goals try (refine EW.nm ?_)
      all_goals try ((first | refine EW.eRegL (id := 15) ?_ | refine EW.eReg (id := 15) ?_); refine EW.eLoadA (k := 2) ?_; refine EW.eMove ?_; refine EW.eNeg ?_; refine EW.eConv ?_; (first | refine EW.eStoreW (k := 2) ?_ | refine EW.eStore (k := 2) ?_); refine EW.eAssign ?_; refine EW.eAssign ?_; refine EW.eEnd ?_; (try refine EW.nm ?_))
      all_goals try (with_reducible refine EW.parkK ?_)
      all_goals try ((first | refine EW.eRegL (id := 16) ?_ | refine EW.eReg (id := 16) ?_); refine EW.eLoadA (k := 2) ?_; refine EW.eMove ?_; refine EW.eConv ?_; (first | refine EW.eStoreW (k := 2) ?_ | refine EW.eStore (k := 2) ?_); refine EW.eAssign ?_; refine EW.eAssign ?_; refine EW.eEnd ?_; (try refine EW.nm ?_))
      all_goals try (with_reducible refine EW.parkK ?_)
      all_goals try (refine EW.Park.mk ?_)
      all_goals (refine EW.eLeaveP ?_; intro w' hW; refine ⟨?_, hW⟩)
      all_goals first | rfl | (simp only [n2]; done) | (refine congrArg (fun n => Ending.returned (.tuple #[_, .int .i64 n, _])) ?_; omega)
  · have hcc : ¬ c < 0 := by omega
    rw [if_neg (by rw [eq_iff_iff]; omega)]
    simp only [if_neg hcc]
    have := hC2 h2
    by_cases h3 : 0 < R
    all_goals
      first | rw [if_pos h3] | rw [if_neg h3]
      refine EW.eEnter Try.func71 rfl Try.ntmps71 ?_
      all_goals try (refine EW.nm ?_)
      all_goals try ((first | refine EW.eRegL (id := 0) ?_ | refine EW.eReg (id := 0) ?_); refine EW.eBox ?_; refine EW.eAlloc ?_; refine EW.eAssign ?_; refine EW.eAssign ?_; refine EW.eEnd ?_; (try refine EW.nm ?_))
      all_goals try ((first | refine EW.eRegL (id := 1) ?_ | refine EW.eReg (id := 1) ?_); refine EW.eMove ?_; refine EW.eEql ?_; refine EW.eEnd ?_; (try refine EW.nm ?_))
      all_goals try (first | refine EW.eYes (x := Operand.tmp 12) ?_ | refine EW.eNo (x := Operand.tmp 12) ?_ | (refine EW.eCond (x := Operand.tmp 12) ?_ ?_ <;> (intro hb hb'; (try dsimp only at hb'); (try (exfalso; first | omega | with_reducible exact absurd rfl hb')))))
      all_goals try (refine EW.nm ?_)
      all_goals try ((first | refine EW.eRegL (id := 2) ?_ | refine EW.eReg (id := 2) ?_); refine EW.eBuild (place := fun i => [(0, 1), (1, 1)][i]?) ?_; (first | refine EW.eStoreW (k := 2) ?_ | refine EW.eStore (k := 2) ?_); refine EW.eAssign ?_; refine EW.eAssign ?_; refine EW.eEnd ?_; (try refine EW.nm ?_))
      all_goals try (with_reducible refine EW.parkK ?_)
      all_goals try ((first | refine EW.eRegL (id := 3) ?_ | refine EW.eReg (id := 3) ?_); refine EW.eFieldAddr (k := 1) ?_; refine EW.eLoad1 ?_; refine EW.eLss ?_; refine EW.eAssign ?_; refine EW.eEnd ?_; (try refine EW.nm ?_))
      all_goals try ((first | refine EW.eRegL (id := 4) ?_ | refine EW.eReg (id := 4) ?_); refine EW.eLoadA (k := 2) ?_; refine EW.eAlloc ?_; (first | refine EW.eStoreW (k := 2) ?_ | refine EW.eStore (k := 2) ?_); refine EW.eEnd ?_; (try refine EW.nm ?_))
      all_goals try ((first | refine EW.eRegL (id := 5) ?_ | refine EW.eReg (id := 5) ?_); refine EW.eMove ?_; refine EW.eEnd ?_; (try refine EW.nm ?_))
      all_goals try (first | refine EW.eYes (x := Operand.tmp 18) ?_ | refine EW.eNo (x := Operand.tmp 18) ?_ | (refine EW.eCond (x := Operand.tmp 18) ?_ ?_ <;> (intro hb hb'; (try dsimp only at hb'); (try (exfalso; first | omega | with_reducible exact absurd rfl hb')))))
      all_goals try (refine EW.nm ?_)
      all_goals try ((first | refine EW.eRegL (id := 6) ?_ | refine EW.eReg (id := 6) ?_); refine EW.eLoadA (k := 2) ?_; (first | refine EW.eCall Try.call79 (fun w => hT w) ?_ | refine EW.eCall Try.call79 (fun w => hT2 w) ?_); (first | refine EW.eStoreW (k := 2) ?_ | refine EW.eStore (k := 2) ?_); refine EW.eEnd ?_; (try refine EW.nm ?_))
      all_goals try ((first | refine EW.eRegL (id := 7) ?_ | refine EW.eReg (id := 7) ?_); refine EW.eLoadA (k := 2) ?_; refine EW.eMove ?_; refine EW.eCall Try.call81 (fun w => hS w) ?_; refine EW.eCall Try.call80 (fun w => hP1 h1 w) ?_; refine EW.eMove ?_; (first | refine EW.eExtC ?_ | refine EW.eExtA ?_); (first | refine EW.eExtC ?_ | refine EW.eExtA ?_); refine EW.eAlloc ?_; (first | refine EW.eStoreW (k := 2) ?_ | refine EW.eStore (k := 2) ?_); refine EW.eAssign ?_; refine EW.eDraw ?_; (try refine EW.nm ?_))
      all_goals try ((first | refine EW.eRegL (id := 8) ?_ | refine EW.eReg (id := 8) ?_); refine EW.eMove ?_; refine EW.eMove ?_; refine EW.eLss ?_; refine EW.eNeqB ?_; refine EW.eEnd ?_; (try refine EW.nm ?_))
      all_goals try (first | refine EW.eYes (x := Operand.tmp 31) ?_ | refine EW.eNo (x := Operand.tmp 31) ?_ | (refine EW.eCond (x := Operand.tmp 31) ?_ ?_ <;> (intro hb hb'; (try dsimp only at hb'); (try (exfalso; first | omega | with_reducible exact absurd rfl hb')))))
      all_goals try (refine EW.nm ?_)
      all_goals try ((first | refine EW.eRegL (id := 9) ?_ | refine EW.eReg (id := 9) ?_); refine EW.eLoadA (k := 2) ?_; (first | refine EW.eCall Try.call79 (fun w => hT w) ?_ | refine EW.eCall Try.call79 (fun w => hT2 w) ?_); (first | refine EW.eStoreW (k := 2) ?_ | refine EW.eStore (k := 2) ?_); refine EW.eEnd ?_; (try refine EW.nm ?_))
      all_goals try ((first | refine EW.eRegL (id := 10) ?_ | refine EW.eReg (id := 10) ?_); refine EW.eMove ?_; refine EW.eGtr ?_; refine EW.eEnd ?_; (try refine EW.nm ?_))
      all_goals try (first | refine EW.eYes (x := Operand.tmp 35) ?_ | refine EW.eNo (x := Operand.tmp 35) ?_ | (refine EW.eCond (x := Operand.tmp 35) ?_ ?_ <;> (intro hb hb'; (try dsimp only at hb'); (try (exfalso; first | omega | with_reducible exact absurd rfl hb')))))
      all_goals try (refine EW.nm ?_)
      all_goals try ((first | refine EW.eRegL (id := 11) ?_ | refine EW.eReg (id := 11) ?_); refine EW.eLoadA (k := 2) ?_; refine EW.eCall Try.call83 (fun w => hO w) ?_; refine EW.eCall Try.call82 (fun w => hPl w) ?_; refine EW.eMove ?_; refine EW.eCall Try.call81 (fun w => hS w) ?_; refine EW.eMove ?_; refine EW.eSub ?_; (first | refine EW.eStoreW (k := 2) ?_ | refine EW.eStore (k := 2) ?_); refine EW.eAssign ?_; refine EW.eDraw ?_; (try refine EW.nm ?_))
      all_goals try ((first | refine EW.eRegL (id := 12) ?_ | refine EW.eReg (id := 12) ?_); refine EW.eFieldAddr (k := 1) ?_; refine EW.eLoad1 ?_; refine EW.eLss ?_; refine EW.eEnd ?_; (try refine EW.nm ?_))
      all_goals try (first | refine EW.eYes (x := Operand.tmp 45) ?_ | refine EW.eNo (x := Operand.tmp 45) ?_ | (refine EW.eCond (x := Operand.tmp 45) ?_ ?_ <;> (intro hb hb'; (try dsimp only at hb'); (try (exfalso; first | omega | with_reducible exact absurd rfl hb')))))
      all_goals try (refine EW.nm ?_)
      all_goals try ((first | refine EW.eRegL (id := 13) ?_ | refine EW.eReg (id := 13) ?_); refine EW.eBuild (place := fun i => [(0, 1), (1, 1)][i]?) ?_; (first | refine EW.eStoreW (k := 2) ?_ | refine EW.eStore (k := 2) ?_); refine EW.eAssign ?_; refine EW.eAssign ?_; refine EW.eEnd ?_; (try refine EW.nm ?_))
      all_goals try (with_reducible refine EW.parkK ?_)
      all_goals try ((first | refine EW.eRegL (id := 14) ?_ | refine EW.eReg (id := 14) ?_); refine EW.eMove ?_; refine EW.eLss ?_; refine EW.eEnd ?_; (try refine EW.nm ?_))
      all_goals try (first | refine EW.eYes (x := Operand.tmp 48) ?_ | refine EW.eNo (x := Operand.tmp 48) ?_ | (refine EW.eCond (x := Operand.tmp 48) ?_ ?_ <;> (intro hb hb'; (try dsimp only at hb'); (try (exfalso; first | omega | with_reducible exact absurd rfl hb')))))
      all_goals try (refine EW.nm ?_)
      all_goals try ((first | refine EW.eRegL (id := 15) ?_ | refine EW.eReg (id := 15) ?_); refine EW.eLoadA (k := 2) ?_; refine EW.eMove ?_; refine EW.eNeg ?_; refine EW.eConv ?_; (first | refine EW.eStoreW (k := 2) ?_ | refine EW.eStore (k := 2) ?_); refine EW.eAssign ?_; refine EW.eAssign ?_; refine EW.eEnd ?_; (try refine EW.nm ?_))
      all_goals try (with_reducible refine EW.parkK ?_)
      all_goals try ((first | refine EW.eRegL (id := 16) ?_ | refine EW.eReg (id := 16) ?_); refine EW.eLoadA (k := 2) ?_; refine EW.eMove ?_; refine EW.eConv ?_; (first | refine EW.eStoreW (k := 2) ?_ | refine EW.eStore (k := 2) ?_); refine EW.eAssign ?_; refine EW.eAssign ?_; refine EW.eEnd ?_; (try refine EW.nm ?_))
      all_goals try (with_reducible refine EW.parkK ?_)
      all_goals try (refine EW.Park.mk ?_)
      all_goals (refine EW.eLeaveP ?_; intro w' hW; refine ⟨?_, hW⟩)
      all_goals rfl
  · rw [if_neg (by rw [eq_iff_iff]; omega), if_pos h2, if_pos h2]
    by_cases h3 : 0 < R
    all_goals
      first | (rw [if_pos h3]; have n3 := n1 h3) | rw [if_neg h3]
      refine EW.eEnter Try.func71 rfl Try.ntmps71 ?_
      all_goals try (refine EW.nm ?_)
      all_goals try ((first | refine EW.eRegL (id := 0) ?_ | refine EW.eReg (id := 0) ?_); refine EW.eBox ?_; refine EW.eAlloc ?_; refine EW.eAssign ?_; refine EW.eAssign ?_; refine EW.eEnd ?_; (try refine EW.nm ?_))
      all_goals try ((first | refine EW.eRegL (id := 1) ?_ | refine EW.eReg (id := 1) ?_); refine EW.eMove ?_; refine EW.eEql ?_; refine EW.eEnd ?_; (try refine EW.nm ?_))
      all_goals try (first | refine EW.eYes (x := Operand.tmp 12) ?_ | refine EW.eNo (x := Operand.tmp 12) ?_ | (refine EW.eCond (x := Operand.tmp 12) ?_ ?_ <;> (intro hb hb'; (try dsimp only at hb'); (try (exfalso; first | omega | with_reducible exact absurd rfl hb')))))
      all_goals try (refine EW.nm ?_)
      all_goals try ((first | refine EW.eRegL (id := 2) ?_ | refine EW.eReg (id := 2) ?_); refine EW.eBuild (place := fun i => [(0, 1), (1, 1)][i]?) ?_; (first | refine EW.eStoreW (k := 2) ?_ | refine EW.eStore (k := 2) ?_); refine EW.eAssign ?_; refine EW.eAssign ?_; refine EW.eEnd ?_; (try refine EW.nm ?_))
      all_goals try (with_reducible refine EW.parkK ?_)
      all_goals try ((first | refine EW.eRegL (id := 3) ?_ | refine EW.eReg (id := 3) ?_); refine EW.eFieldAddr (k := 1) ?_; refine EW.eLoad1 ?_; refine EW.eLss ?_; refine EW.eAssign ?_; refine EW.eEnd ?_; (try refine EW.nm ?_))
      all_goals try ((first | refine EW.eRegL (id := 4) ?_ | refine EW.eReg (id := 4) ?_); refine EW.eLoadA (k := 2) ?_; refine EW.eAlloc ?_; (first | refine EW.eStoreW (k := 2) ?_ | refine EW.eStore (k := 2) ?_); refine EW.eEnd ?_; (try refine EW.nm ?_))
      all_goals try ((first | refine EW.eRegL (id := 5) ?_ | refine EW.eReg (id := 5) ?_); refine EW.eMove ?_; refine EW.eEnd ?_; (try refine EW.nm ?_))
      all_goals try (first | refine EW.eYes (x := Operand.tmp 18) ?_ | refine EW.eNo (x := Operand.tmp 18) ?_ | (refine EW.eCond (x := Operand.tmp 18) ?_ ?_ <;> (intro hb hb'; (try dsimp only at hb'); (try (exfalso; first | omega | with_reducible exact absurd rfl hb')))))
      all_goals try (refine EW.nm ?_)
      all_goals try ((first | refine EW.eRegL (id := 6) ?_ | refine EW.eReg (id := 6) ?_); refine EW.eLoadA (k := 2) ?_; refine EW.eCall Try.call79 (fun w => hT2 w) ?_; (first | refine EW.eStoreW (k := 2) ?_ | refine EW.eStore (k := 2) ?_); refine EW.eEnd ?_; (try refine EW.nm ?_))
      all_goals try ((first | refine EW.eRegL (id := 7) ?_ | refine EW.eReg (id := 7) ?_); refine EW.eLoadA (k := 2) ?_; refine EW.eMove ?_; refine EW.eCall Try.call81 (fun w => hS w) ?_; refine EW.eCall Try.call80 (fun w => hP2 h1 w) ?_; refine EW.eMove ?_; (first | refine EW.eExtC ?_ | refine EW.eExtA ?_); (first | refine EW.eExtC ?_ | refine EW.eExtA ?_); refine EW.eAlloc ?_; (first | refine EW.eStoreW (k := 2) ?_ | refine EW.eStore (k := 2) ?_); refine EW.eAssign ?_; refine EW.eDraw ?_; (try refine EW.nm ?_))
      all_goals try ((first | refine EW.eRegL (id := 8) ?_ | refine EW.eReg (id := 8) ?_); refine EW.eMove ?_; refine EW.eMove ?_; refine EW.eLss ?_; refine EW.eNeqB ?_; refine EW.eEnd ?_; (try refine EW.nm ?_))
      all_goals try (first | refine EW.eYes (x := Operand.tmp 31) ?_ | refine EW.eNo (x := Operand.tmp 31) ?_ | (refine EW.eCond (x := Operand.tmp 31) ?_ ?_ <;> (intro hb hb'; (try dsimp only at hb'); (try (exfalso; first | omega | with_reducible exact absurd rfl hb')))))
      all_goals try (refine EW.nm ?_)
      all_goals try ((first | refine EW.eRegL (id := 9) ?_ | refine EW.eReg (id := 9) ?_); refine EW.eLoadA (k := 2) ?_; refine EW.eCall Try.call79 (fun w => hT2 w) ?_; (first | refine EW.eStoreW (k := 2) ?_ | refine EW.eStore (k := 2) ?_); refine EW.eEnd ?_; (try refine EW.nm ?_))
      all_goals try ((first | refine EW.eRegL (id := 10) ?_ | refine EW.eReg (id := 10) ?_); refine EW.eMove ?_; refine EW.eGtr ?_; refine EW.eEnd ?_; (try refine EW.nm ?_))
      all_goals try (first | refine EW.eYes (x := Operand.tmp 35) ?_ | refine EW.eNo (x := Operand.tmp 35) ?_ | (refine EW.eCond (x := Operand.tmp 35) ?_ ?_ <;> (intro hb hb'; (try dsimp only at hb'); (try (exfalso; first | omega | with_reducible exact absurd rfl hb')))))
      all_goals try (refine EW.nm ?_)
      all_goals try ((first | refine EW.eRegL (id := 11) ?_ | refine EW.eReg (id := 11) ?_); refine EW.eLoadA (k := 2) ?_; refine EW.eCall Try.call83 (fun w => hO w) ?_; refine EW.eCall Try.call82 (fun w => hPl w) ?_; refine EW.eMove ?_; refine EW.eCall Try.call81 (fun w => hS w) ?_; refine EW.eMove ?_; refine EW.eSub ?_; (first | refine EW.eStoreW (k := 2) ?_ | refine EW.eStore (k := 2) ?_); refine EW.eAssign ?_; refine EW.eDraw ?_; (try refine EW.nm ?_))
      all_goals try ((first | refine EW.eRegL (id := 12) ?_ | refine EW.eReg (id := 12) ?_); refine EW.eFieldAddr (k := 1) ?_; refine EW.eLoad1 ?_; refine EW.eLss ?_; refine EW.eEnd ?_; (try refine EW.nm ?_))
      all_goals try (first | refine EW.eYes (x := Operand.tmp 45) ?_ | refine EW.eNo (x := Operand.tmp 45) ?_ | (refine EW.eCond (x := Operand.tmp 45) ?_ ?_ <;> (intro hb hb'; (try dsimp only at hb'); (try (exfalso; first | omega | with_reducible exact absurd rfl hb')))))
      all_goals try (refine EW.nm ?_)
      all_goals try ((first | refine EW.eRegL (id := 13) ?_ | refine EW.eReg (id := 13) ?_); refine EW.eBuild (place := fun i => [(0, 1), (1, 1)][i]?) ?_; (first | refine EW.eStoreW (k := 2) ?_ | refine EW.eStore (k := 2) ?_); refine EW.eAssign ?_; refine EW.eAssign ?_; refine EW.eEnd ?_; (try refine EW.nm ?_))
      all_goals try (with_reducible refine EW.parkK ?_)
      all_goals try ((first | refine EW.eRegL (id := 14) ?_ | refine EW.eReg (id := 14) ?_); refine EW.eMove ?_; refine EW.eLss ?_; refine EW.eEnd ?_; (try refine EW.nm ?_))
      all_goals try (first | refine EW.eYes (x := Operand.tmp 48) ?_ | refine EW.eNo (x := Operand.tmp 48) ?_ | (refine EW.eCond (x := Operand.tmp 48) ?_ ?_ <;> (intro hb hb'; (try dsimp only at hb'); (try (exfalso; first | omega | with_reducible exact absurd rfl hb')))))
      all_goals try (refine EW.nm ?_)
      all_goals try ((first | refine EW.eRegL (id := 15) ?_ | refine EW.eReg (id := 15) ?_); refine EW.eLoadA (k := 2) ?_; refine EW.eMove ?_; refine EW.eNeg ?_; refine EW.eConv ?_; (first | refine EW.eStoreW (k := 2) ?_ | refine EW.eStore (k := 2) ?_); refine EW.eAssign ?_; refine EW.eAssign ?_; refine EW.eEnd ?_; (try refine EW.nm ?_))
      all_goals try (with_reducible refine EW.parkK ?_)
      all_goals try ((first | refine EW.eRegL (id := 16) ?_ | refine EW.eReg (id := 16) ?_); refine EW.eLoadA (k := 2) ?_; refine EW.eMove ?_; refine EW.eConv ?_; (first | refine EW.eStoreW (k := 2) ?_ | refine EW.eStore (k := 2) ?_); refine EW.eAssign ?_; refine EW.eAssign ?_; refine EW.eEnd ?_; (try refine EW.nm ?_))
      all_goals try (with_reducible refine EW.parkK ?_)
      all_goals try (refine EW.Park.mk ?_)
      all_goals (refine EW.eLeaveP ?_; intro w' hW; refine ⟨?_, hW⟩)
      all_goals first | rfl | (simp only [n3]; done) | (simp only [n2]; done) | (refine congrArg (fun n => Ending.returned (.tuple #[_, .int .i64 n, _])) ?_; omega)
  · have hcc : ¬ c < 0 := by omega
    rw [if_pos (by rw [eq_iff_iff]; omega)]
    simp only [if_neg hcc]
    have := hC2 h2
    by_cases h3 : QH < 0
    all_goals
      first | rw [if_pos h3] | rw [if_neg h3]
      refine EW.eEnter Try.func71 rfl Try.ntmps71 ?_
      all_goals try (refine EW.nm ?_)
      all_goals try ((first | refine EW.eRegL (id := 0) ?_ | refine EW.eReg (id := 0) ?_); refine EW.eBox ?_; refine EW.eAlloc ?_; refine EW.eAssign ?_; refine EW.eAssign ?_; refine EW.eEnd ?_; (try refine EW.nm ?_))
      all_goals try ((first | refine EW.eRegL (id := 1) ?_ | refine EW.eReg (id := 1) ?_); refine EW.eMove ?_; refine EW.eEql ?_; refine EW.eEnd ?_; (try refine EW.nm ?_))
      all_goals try (first | refine EW.eYes (x := Operand.tmp 12) ?_ | refine EW.eNo (x := Operand.tmp 12) ?_ | (refine EW.eCond (x := Operand.tmp 12) ?_ ?_ <;> (intro hb hb'; (try dsimp only at hb'); (try (exfalso; first | omega | with_reducible exact absurd rfl hb')))))
      all_goals try (refine EW.nm ?_)
      all_goals try ((first | refine EW.eRegL (id := 2) ?_ | refine EW.eReg (id := 2) ?_); refine EW.eBuild (place := fun i => [(0, 1), (1, 1)][i]?) ?_; (first | refine EW.eStoreW (k := 2) ?_ | refine EW.eStore (k := 2) ?_); refine EW.eAssign ?_; refine EW.eAssign ?_; refine EW.eEnd ?_; (try refine EW.nm ?_))
      all_goals try (with_reducible refine EW.parkK ?_)
      all_goals try ((first | refine EW.eRegL (id := 3) ?_ | refine EW.eReg (id := 3) ?_); refine EW.eFieldAddr (k := 1) ?_; refine EW.eLoad1 ?_; refine EW.eLss ?_; refine EW.eAssign ?_; refine EW.eEnd ?_; (try refine EW.nm ?_))
      all_goals try ((first | refine EW.eRegL (id := 4) ?_ | refine EW.eReg (id := 4) ?_); refine EW.eLoadA (k := 2) ?_; refine EW.eAlloc ?_; (first | refine EW.eStoreW (k := 2) ?_ | refine EW.eStore (k := 2) ?_); refine EW.eEnd ?_; (try refine EW.nm ?_))
      all_goals try ((first | refine EW.eRegL (id := 5) ?_ | refine EW.eReg (id := 5) ?_); refine EW.eMove ?_; refine EW.eEnd ?_; (try refine EW.nm ?_))
      all_goals try (first | refine EW.eYes (x := Operand.tmp 18) ?_ | refine EW.eNo (x := Operand.tmp 18) ?_ | (refine EW.eCond (x := Operand.tmp 18) ?_ ?_ <;> (intro hb hb'; (try dsimp only at hb'); (try (exfalso; first | omega | with_reducible exact absurd rfl hb')))))
      all_goals try (refine EW.nm ?_)
      all_goals try ((first | refine EW.eRegL (id := 6) ?_ | refine EW.eReg (id := 6) ?_); refine EW.eLoadA (k := 2) ?_; fail "no contract of mullion/wide.turned"; (first | refine EW.eStoreW (k := 2) ?_ | refine EW.eStore (k := 2) ?_); refine EW.eEnd ?_; (try refine EW.nm ?_))
      all_goals try ((first | refine EW.eRegL (id := 7) ?_ | refine EW.eReg (id := 7) ?_); refine EW.eLoadA (k := 2) ?_; refine EW.eMove ?_; refine EW.eCall Try.call81 (fun w => hS w) ?_; refine EW.eCall Try.call80 (fun w => hP2 h1 w) ?_; refine EW.eMove ?_; (first | refine EW.eExtC ?_ | refine EW.eExtA ?_); (first | refine EW.eExtC ?_ | refine EW.eExtA ?_); refine EW.eAlloc ?_; (first | refine EW.eStoreW (k := 2) ?_ | refine EW.eStore (k := 2) ?_); refine EW.eAssign ?_; refine EW.eDraw ?_; (try refine EW.nm ?_))
      all_goals try ((first | refine EW.eRegL (id := 8) ?_ | refine EW.eReg (id := 8) ?_); refine EW.eMove ?_; refine EW.eMove ?_; refine EW.eLss ?_; refine EW.eNeqB ?_; refine EW.eEnd ?_; (try refine EW.nm ?_))
      all_goals try (first | refine EW.eYes (x := Operand.tmp 31) ?_ | refine EW.eNo (x := Operand.tmp 31) ?_ | (refine EW.eCond (x := Operand.tmp 31) ?_ ?_ <;> (intro hb hb'; (try dsimp only at hb'); (try (exfalso; first | omega | with_reducible exact absurd rfl hb')))))
      all_goals try (refine EW.nm ?_)
      all_goals try ((first | refine EW.eRegL (id := 9) ?_ | refine EW.eReg (id := 9) ?_); refine EW.eLoadA (k := 2) ?_; fail "no contract of mullion/wide.turned"; (first | refine EW.eStoreW (k := 2) ?_ | refine EW.eStore (k := 2) ?_); refine EW.eEnd ?_; (try refine EW.nm ?_))
      all_goals try ((first | refine EW.eRegL (id := 10) ?_ | refine EW.eReg (id := 10) ?_); refine EW.eMove ?_; refine EW.eGtr ?_; refine EW.eEnd ?_; (try refine EW.nm ?_))
      all_goals try (first | refine EW.eYes (x := Operand.tmp 35) ?_ | refine EW.eNo (x := Operand.tmp 35) ?_ | (refine EW.eCond (x := Operand.tmp 35) ?_ ?_ <;> (intro hb hb'; (try dsimp only at hb'); (try (exfalso; first | omega | with_reducible exact absurd rfl hb')))))
      all_goals try (refine EW.nm ?_)
      all_goals try ((first | refine EW.eRegL (id := 11) ?_ | refine EW.eReg (id := 11) ?_); refine EW.eLoadA (k := 2) ?_; fail "no contract of mullion/wide.Of"; fail "no contract of mullion/wide.plus"; refine EW.eMove ?_; refine EW.eCall Try.call81 (fun w => hS w) ?_; refine EW.eMove ?_; refine EW.eSub ?_; (first | refine EW.eStoreW (k := 2) ?_ | refine EW.eStore (k := 2) ?_); refine EW.eAssign ?_; refine EW.eDraw ?_; (try refine EW.nm ?_))
      all_goals try ((first | refine EW.eRegL (id := 12) ?_ | refine EW.eReg (id := 12) ?_); refine EW.eFieldAddr (k := 1) ?_; refine EW.eLoad1 ?_; refine EW.eLss ?_; refine EW.eEnd ?_; (try refine EW.nm ?_))
      all_goals try (first | refine EW.eYes (x := Operand.tmp 45) ?_ | refine EW.eNo (x := Operand.tmp 45) ?_ | (refine EW.eCond (x := Operand.tmp 45) ?_ ?_ <;> (intro hb hb'; (try dsimp only at hb'); (try (exfalso; first | omega | with_reducible exact absurd rfl hb')))))
      all_goals try (refine EW.nm ?_)
      all_goals try ((first | refine EW.eRegL (id := 13) ?_ | refine EW.eReg (id := 13) ?_); refine EW.eBuild (place := fun i => [(0, 1), (1, 1)][i]?) ?_; (first | refine EW.eStoreW (k := 2) ?_ | refine EW.eStore (k := 2) ?_); refine EW.eAssign ?_; refine EW.eAssign ?_; refine EW.eEnd ?_; (try refine EW.nm ?_))
      all_goals try (with_reducible refine EW.parkK ?_)
      all_goals try ((first | refine EW.eRegL (id := 14) ?_ | refine EW.eReg (id := 14) ?_); refine EW.eMove ?_; refine EW.eLss ?_; refine EW.eEnd ?_; (try refine EW.nm ?_))
      all_goals try (first | refine EW.eYes (x := Operand.tmp 48) ?_ | refine EW.eNo (x := Operand.tmp 48) ?_ | (refine EW.eCond (x := Operand.tmp 48) ?_ ?_ <;> (intro hb hb'; (try dsimp only at hb'); (try (exfalso; first | omega | with_reducible exact absurd rfl hb')))))
      all_goals try (refine EW.nm ?_)
      all_goals try ((first | refine EW.eRegL (id := 15) ?_ | refine EW.eReg (id := 15) ?_); refine EW.eLoadA (k := 2) ?_; refine EW.eMove ?_; refine EW.eNeg ?_; refine EW.eConv ?_; (first | refine EW.eStoreW (k := 2) ?_ | refine EW.eStore (k := 2) ?_); refine EW.eAssign ?_; refine EW.eAssign ?_; refine EW.eEnd ?_; (try refine EW.nm ?_))
      all_goals try (with_reducible refine EW.parkK ?_)
      all_goals try ((first | refine EW.eRegL (id := 16) ?_ | refine EW.eReg (id := 16) ?_); refine EW.eLoadA (k := 2) ?_; refine EW.eMove ?_; refine EW.eConv ?_; (first | refine EW.eStoreW (k := 2) ?_ | refine EW.eStore (k := 2) ?_); refine EW.eAssign ?_; refine EW.eAssign ?_; refine EW.eEnd ?_; (try refine EW.nm ?_))
      all_goals try (with_reducible refine EW.parkK ?_)
      all_goals try (refine EW.Park.mk ?_)
      all_goals (refine EW.eLeaveP ?_; intro w' hW; refine ⟨?_, hW⟩)
      all_goals rfl
theorem w128_neg {Q : Int} (h0 : 0 ≤ Q) (h1 : Q ≤ 170141183460469231731687303715884105728) : w128 (-w128 Q) = -Q := by unfold w128; omega
theorem w128_bits {z : Int} (hz : In128 z) (hn : z < 0) : (z.natAbs : Int) = w128 (-z) / 18446744073709551616 % 18446744073709551616 * 18446744073709551616 + w128 (-z) % 18446744073709551616 := by
  rw [show (z.natAbs : Int) = -z from by omega]; unfold In128 at hz; unfold w128; omega
theorem pos_bits {z : Int} (hz : In128 z) (hn : 0 ≤ z) : (z.natAbs : Int) = z / 18446744073709551616 % 18446744073709551616 * 18446744073709551616 + z % 18446744073709551616 := by
  rw [show (z.natAbs : Int) = z from by omega]; unfold In128 at hz; omega
theorem big_hi {Q : Int} (h0 : 0 ≤ Q) (h1 : Q ≤ 170141183460469231731687303715884105728) (h : ¬ In128 Q) : w128 Q / 18446744073709551616 < 0 := by unfold In128 at h; unfold w128; omega
theorem neg_in {Q n : Nat} (h : Q ≤ n) (hn : n ≤ 170141183460469231731687303715884105728) : In128 (-(Q : Int)) := ⟨by omega, by omega⟩
theorem q_le {Q n : Nat} (h : Q ≤ n) (hn : n ≤ 170141183460469231731687303715884105728) : (Q : Int) ≤ 170141183460469231731687303715884105728 := by omega
theorem abs_le {z : Int} (hz : In128 z) : z.natAbs ≤ 170141183460469231731687303715884105728 := by unfold In128 at hz; omega
theorem one_in : In128 (-1) := ⟨by omega, by omega⟩
theorem sg_eq (z : Int) : (z / 18446744073709551616 < 0) ↔ (z < 0) := by omega
theorem small_hi {Q : Int} (h0 : 0 ≤ Q) : ¬ Q / 18446744073709551616 < 0 := by omega
set_option maxHeartbeats 2000000 in
theorem wdiv (z c : Int) (w : World) (hz : In128 z) (h0 : -9223372036854775808 ≤ c) (h1 : c ≤ 9223372036854775807) : Calls Try.prog 71 #[W2 z, .int .i64 c] w fun e w' => e = .returned (.tuple #[W2 (dQ z c), .int .i64 (dR z c), .int .i64 (dE z c)]) ∧ Below w.heap.size w w' := by
  by_cases hc : c = 0
  · subst hc
    refine EW.eEnter Try.func71 rfl Try.ntmps71 ?_
    all_goals try (refine EW.nm ?_)
    all_goals try ((first | refine EW.eRegL (id := 0) ?_ | refine EW.eReg (id := 0) ?_); refine EW.eBox ?_; refine EW.eAlloc ?_; refine EW.eAssign ?_; refine EW.eAssign ?_; refine EW.eEnd ?_; (try refine EW.nm ?_))
    all_goals try ((first | refine EW.eRegL (id := 1) ?_ | refine EW.eReg (id := 1) ?_); refine EW.eMove ?_; refine EW.eEql ?_; refine EW.eEnd ?_; (try refine EW.nm ?_))
    all_goals try (first | refine EW.eYes (x := Operand.tmp 12) ?_ | refine EW.eNo (x := Operand.tmp 12) ?_ | (refine EW.eCond (x := Operand.tmp 12) ?_ ?_ <;> (intro hb hb'; (try dsimp only at hb'); (try (exfalso; first | omega | with_reducible exact absurd rfl hb')))))
    all_goals try (refine EW.nm ?_)
    all_goals try ((first | refine EW.eRegL (id := 2) ?_ | refine EW.eReg (id := 2) ?_); refine EW.eBuild (place := fun i => [(0, 1), (1, 1)][i]?) ?_; (first | refine EW.eStoreW (k := 2) ?_ | refine EW.eStore (k := 2) ?_); refine EW.eAssign ?_; refine EW.eAssign ?_; refine EW.eEnd ?_; (try refine EW.nm ?_))
    all_goals try (with_reducible refine EW.parkK ?_)
    all_goals try ((first | refine EW.eRegL (id := 3) ?_ | refine EW.eReg (id := 3) ?_); refine EW.eFieldAddr (k := 1) ?_; refine EW.eLoad1 ?_; refine EW.eLss ?_; refine EW.eAssign ?_; refine EW.eEnd ?_; (try refine EW.nm ?_))
    all_goals try ((first | refine EW.eRegL (id := 4) ?_ | refine EW.eReg (id := 4) ?_); refine EW.eLoadA (k := 2) ?_; refine EW.eAlloc ?_; (first | refine EW.eStoreW (k := 2) ?_ | refine EW.eStore (k := 2) ?_); refine EW.eEnd ?_; (try refine EW.nm ?_))
    all_goals try ((first | refine EW.eRegL (id := 5) ?_ | refine EW.eReg (id := 5) ?_); refine EW.eMove ?_; refine EW.eEnd ?_; (try refine EW.nm ?_))
    all_goals try (first | refine EW.eYes (x := Operand.tmp 18) ?_ | refine EW.eNo (x := Operand.tmp 18) ?_ | (refine EW.eCond (x := Operand.tmp 18) ?_ ?_ <;> (intro hb hb'; (try dsimp only at hb'); (try (exfalso; first | omega | with_reducible exact absurd rfl hb')))))
    all_goals try (refine EW.nm ?_)
    all_goals try ((first | refine EW.eRegL (id := 6) ?_ | refine EW.eReg (id := 6) ?_); refine EW.eLoadA (k := 2) ?_; fail "no contract of mullion/wide.turned"; (first | refine EW.eStoreW (k := 2) ?_ | refine EW.eStore (k := 2) ?_); refine EW.eEnd ?_; (try refine EW.nm ?_))
    all_goals try ((first | refine EW.eRegL (id := 7) ?_ | refine EW.eReg (id := 7) ?_); refine EW.eLoadA (k := 2) ?_; refine EW.eMove ?_; fail "no contract of mullion/wide.size"; fail "no contract of mullion/wide.parts"; refine EW.eMove ?_; (first | refine EW.eExtC ?_ | refine EW.eExtA ?_); (first | refine EW.eExtC ?_ | refine EW.eExtA ?_); refine EW.eAlloc ?_; (first | refine EW.eStoreW (k := 2) ?_ | refine EW.eStore (k := 2) ?_); refine EW.eAssign ?_; refine EW.eDraw ?_; (try refine EW.nm ?_))
    all_goals try ((first | refine EW.eRegL (id := 8) ?_ | refine EW.eReg (id := 8) ?_); refine EW.eMove ?_; refine EW.eMove ?_; refine EW.eLss ?_; refine EW.eNeqB ?_; refine EW.eEnd ?_; (try refine EW.nm ?_))
    all_goals try (first | refine EW.eYes (x := Operand.tmp 31) ?_ | refine EW.eNo (x := Operand.tmp 31) ?_ | (refine EW.eCond (x := Operand.tmp 31) ?_ ?_ <;> (intro hb hb'; (try dsimp only at hb'); (try (exfalso; first | omega | with_reducible exact absurd rfl hb')))))
    all_goals try (refine EW.nm ?_)
    all_goals try ((first | refine EW.eRegL (id := 9) ?_ | refine EW.eReg (id := 9) ?_); refine EW.eLoadA (k := 2) ?_; fail "no contract of mullion/wide.turned"; (first | refine EW.eStoreW (k := 2) ?_ | refine EW.eStore (k := 2) ?_); refine EW.eEnd ?_; (try refine EW.nm ?_))
    all_goals try ((first | refine EW.eRegL (id := 10) ?_ | refine EW.eReg (id := 10) ?_); refine EW.eMove ?_; refine EW.eGtr ?_; refine EW.eEnd ?_; (try refine EW.nm ?_))
    all_goals try (first | refine EW.eYes (x := Operand.tmp 35) ?_ | refine EW.eNo (x := Operand.tmp 35) ?_ | (refine EW.eCond (x := Operand.tmp 35) ?_ ?_ <;> (intro hb hb'; (try dsimp only at hb'); (try (exfalso; first | omega | with_reducible exact absurd rfl hb')))))
    all_goals try (refine EW.nm ?_)
    all_goals try ((first | refine EW.eRegL (id := 11) ?_ | refine EW.eReg (id := 11) ?_); refine EW.eLoadA (k := 2) ?_; fail "no contract of mullion/wide.Of"; fail "no contract of mullion/wide.plus"; refine EW.eMove ?_; fail "no contract of mullion/wide.size"; refine EW.eMove ?_; refine EW.eSub ?_; (first | refine EW.eStoreW (k := 2) ?_ | refine EW.eStore (k := 2) ?_); refine EW.eAssign ?_; refine EW.eDraw ?_; (try refine EW.nm ?_))
    all_goals try ((first | refine EW.eRegL (id := 12) ?_ | refine EW.eReg (id := 12) ?_); refine EW.eFieldAddr (k := 1) ?_; refine EW.eLoad1 ?_; refine EW.eLss ?_; refine EW.eEnd ?_; (try refine EW.nm ?_))
    all_goals try (first | refine EW.eYes (x := Operand.tmp 45) ?_ | refine EW.eNo (x := Operand.tmp 45) ?_ | (refine EW.eCond (x := Operand.tmp 45) ?_ ?_ <;> (intro hb hb'; (try dsimp only at hb'); (try (exfalso; first | omega | with_reducible exact absurd rfl hb')))))
    all_goals try (refine EW.nm ?_)
    all_goals try ((first | refine EW.eRegL (id := 13) ?_ | refine EW.eReg (id := 13) ?_); refine EW.eBuild (place := fun i => [(0, 1), (1, 1)][i]?) ?_; (first | refine EW.eStoreW (k := 2) ?_ | refine EW.eStore (k := 2) ?_); refine EW.eAssign ?_; refine EW.eAssign ?_; refine EW.eEnd ?_; (try refine EW.nm ?_))
    all_goals try (with_reducible refine EW.parkK ?_)
    all_goals try ((first | refine EW.eRegL (id := 14) ?_ | refine EW.eReg (id := 14) ?_); refine EW.eMove ?_; refine EW.eLss ?_; refine EW.eEnd ?_; (try refine EW.nm ?_))
    all_goals try (first | refine EW.eYes (x := Operand.tmp 48) ?_ | refine EW.eNo (x := Operand.tmp 48) ?_ | (refine EW.eCond (x := Operand.tmp 48) ?_ ?_ <;> (intro hb hb'; (try dsimp only at hb'); (try (exfalso; first | omega | with_reducible exact absurd rfl hb')))))
    all_goals try (refine EW.nm ?_)
    all_goals try ((first | refine EW.eRegL (id := 15) ?_ | refine EW.eReg (id := 15) ?_); refine EW.eLoadA (k := 2) ?_; refine EW.eMove ?_; refine EW.eNeg ?_; refine EW.eConv ?_; (first | refine EW.eStoreW (k := 2) ?_ | refine EW.eStore (k := 2) ?_); refine EW.eAssign ?_; refine EW.eAssign ?_; refine EW.eEnd ?_; (try refine EW.nm ?_))
    all_goals try (with_reducible refine EW.parkK ?_)
    all_goals try ((first | refine EW.eRegL (id := 16) ?_ | refine EW.eReg (id := 16) ?_); refine EW.eLoadA (k := 2) ?_; refine EW.eMove ?_; refine EW.eConv ?_; (first | refine EW.eStoreW (k := 2) ?_ | refine EW.eStore (k := 2) ?_); refine EW.eAssign ?_; refine EW.eAssign ?_; refine EW.eEnd ?_; (try refine EW.nm ?_))
    all_goals try (with_reducible refine EW.parkK ?_)
    all_goals try (refine EW.Park.mk ?_)
    all_goals (refine EW.eLeaveP ?_; intro w' hW; refine ⟨?_, hW⟩)
    all_goals rfl
  obtain ⟨g1, g2, g3⟩ := fdiv_cases (x := z) hc rfl
  have hm := Nat.mod_add_div z.natAbs c.natAbs
  have hl := Nat.mod_lt z.natAbs (show 0 < c.natAbs by omega)
  have hqa := Nat.div_le_self z.natAbs c.natAbs
  have hP1 : z < 0 → ∀ w, _ := fun hn w => wparts (w128 (-z)) (z.natAbs : Int) (c.natAbs : Int) w (w128_bounds _) (w128_bits hz hn) (by omega) (by omega)
  have hP2 : 0 ≤ z → ∀ w, _ := fun hn w => wparts z (z.natAbs : Int) (c.natAbs : Int) w hz (pos_bits hz hn) (by omega) (by omega)
  rw [← Int.natCast_ediv, ← Int.natCast_emod] at hP1 hP2
  obtain ⟨Q, hQ⟩ : ∃ Q, z.natAbs / c.natAbs = Q := ⟨_, rfl⟩
  obtain ⟨r, hr⟩ : ∃ r, z.natAbs % c.natAbs = r := ⟨_, rfl⟩
  obtain ⟨q, hq⟩ : ∃ q, z.fdiv c = q := ⟨_, rfl⟩
  rw [hQ, hr] at hP1 hP2 hm g1 g2
  rw [hr] at hl
  rw [hQ] at hqa g3
  rw [hq] at g1 g2 g3
  have hza : z.natAbs ≤ 170141183460469231731687303715884105728 := abs_le hz
  have e2 : w128 (-w128 (Q : Int)) = -(Q : Int) := w128_neg (Int.natCast_nonneg _) (q_le hqa hza)
  have hT2 := fun w => wturned (w128 (Q : Int)) w (w128_bounds _)
  rw [e2] at hT2
  have hPl := fun w => wplus (-(Q : Int)) (-1) w (neg_in hqa hza) one_in
  refine (wdiv_walk _ _ c _ _ (c.natAbs : Int) _ _ (r : Int) _ _ _ _ _ _ w hc ⟨by omega, by omega⟩ (by split <;> omega) ⟨h0, h1⟩ (fun w => wsize c w h0 h1) (fun w => wturned z w hz) (fun hn => hP1 (by omega)) (fun hn => hP2 (by omega)) hT2 (fun w => wof (-1) w (by omega) (by omega)) hPl).mono ?_
  rintro e w' ⟨rfl, hb⟩
  refine ⟨?_, hb⟩
  clear hP1 hP2 hT2 hPl hQ hr
  have hm2 : (r : Int) + (c.natAbs : Int) * (Q : Int) = (z.natAbs : Int) := by rw [← Int.natCast_mul, ← Int.natCast_add, hm]
  rw [Int.mul_comm] at hm2
  unfold resD
  have key : ∀ {q' r' : Int}, q = q' → In128 q' → r' = z - q' * c → Ending.returned (.tuple #[W2 q', .int .i64 r', .int .i64 0]) = Ending.returned (.tuple #[W2 (dQ z c), .int .i64 (dR z c), .int .i64 (dE z c)]) := fun h1 h2 h3 => div_ok hc (hq.trans h1) h2 h3
  by_cases hs : decide (z < 0) = decide (c < 0)
  · have hq2 := g3 hs
    rw [decide_eq_decide] at hs
    rw [if_pos (by rw [eq_iff_iff, sg_eq]; exact hs)]
    by_cases hbig : In128 (Q : Int)
    · rw [w128_in hbig]
      have hbig' := hbig
      unfold In128 at hbig'
      rw [if_neg (small_hi (Int.natCast_nonneg _))]
      refine key hq2 hbig ?_
      rcases Int.lt_or_gt_of_ne hc with hc0 | hc0
      · rw [show (c.natAbs : Int) = -c from by omega, Int.mul_neg] at hm2
        rw [if_pos hc0]; omega
      · rw [show (c.natAbs : Int) = c from by omega] at hm2
        rw [if_neg (by omega)]; omega
    · have hbig' := hbig
      unfold In128 at hbig'
      rw [if_pos (big_hi (Int.natCast_nonneg _) (q_le hqa hza) hbig)]
      exact div_big hc (hq.trans hq2) hbig
  · have hs' := hs
    rw [decide_eq_decide] at hs'
    rw [if_neg (by rw [eq_iff_iff, sg_eq]; exact hs')]
    by_cases hr0 : r = 0
    · have hq2 := g2 hs hr0
      rw [if_neg (by omega)]
      refine key hq2 (neg_in hqa hza) ?_
      subst hr0
      rcases Int.lt_or_gt_of_ne hc with hc0 | hc0
      · rw [show (c.natAbs : Int) = -c from by omega, Int.mul_neg] at hm2
        rw [if_pos hc0, Int.neg_mul]; omega
      · rw [show (c.natAbs : Int) = c from by omega] at hm2
        rw [if_neg (by omega), Int.neg_mul]; omega
    · have hq2 := g1 hs hr0
      have hQ2 : (Q : Int) ≤ 170141183460469231731687303715884105727 := by
        rcases Nat.lt_or_ge 1 c.natAbs with hc1 | hc1
        · have : 2 * Q ≤ c.natAbs * Q := Nat.mul_le_mul_right _ hc1
          omega
        · omega
      rw [if_pos (by omega), w128_in ⟨by omega, by omega⟩]
      refine key (hq2.trans (by omega)) ⟨by omega, by omega⟩ ?_
      rcases Int.lt_or_gt_of_ne hc with hc0 | hc0
      · rw [show (c.natAbs : Int) = -c from by omega, Int.mul_neg] at hm2
        rw [show (c.natAbs : Int) = -c from by omega, if_pos hc0, Int.add_mul, Int.neg_mul]; omega
      · rw [show (c.natAbs : Int) = c from by omega] at hm2
        rw [show (c.natAbs : Int) = c from by omega, if_neg (by omega), Int.add_mul, Int.neg_mul]; omega
end Go.Proofs.Ythclhmdgfekaeaa
