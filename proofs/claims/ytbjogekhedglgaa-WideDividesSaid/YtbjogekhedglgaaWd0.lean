/- Package wide: calls of functions without a body, carries, numbers of 128 bits. -/
import Derived.Test.YtbjogekhedglgaaBg4
import Derived.Test.YtbjogekhedglgaaDiv64
import Derived.Shelf.Spec.BitsCarry
namespace Go.Proofs.Ytbjogekhedglgaa
set_option linter.unusedSimpArgs false
set_option linter.unusedVariables false
open Go.RowKit Go.Shelf EV
open SX (Wr Tv Qu Rm Sh Is conjP eqs_iff eqs_false)
open EW (PlL PlT PlV PlVs LfV Mm Bt Opn GV RX)
theorem add64 (x y c : Int) (hx : 0 ≤ x) (hx' : x < 18446744073709551616) (hy : 0 ≤ y) (hy' : y < 18446744073709551616) (hc0 : 0 ≤ c) (hc : c ≤ 1) (w : World) : (callFunc 48 #[.int .u64 x, .int .u64 y, .int .u64 c]).run Try.prog w =
    .ok (.value (.tuple #[.int .u64 ((x + y + c) % 18446744073709551616), .int .u64 ((x + y + c) / 18446744073709551616)])) w := by
  obtain ⟨x, rfl⟩ := Int.eq_ofNat_of_zero_le hx
  obtain ⟨y, rfl⟩ := Int.eq_ofNat_of_zero_le hy
  obtain ⟨c, rfl⟩ := Int.eq_ofNat_of_zero_le hc0
  rw [run_callFunc_extern Try.func48 (by kernel_rfl) (by kernel_rfl) (by kernel_rfl) (e := add64Entry) (by kernel_rfl), run_add64 x y c (by omega) (by omega) (by omega) (by omega)]
  simp only [Result.andThen]
theorem sub64 (x y b : Int) (hx : 0 ≤ x) (hy : 0 ≤ y) (hy' : y < 18446744073709551616) (hb0 : 0 ≤ b) (hb : b ≤ 1) (w : World) : (callFunc 49 #[.int .u64 x, .int .u64 y, .int .u64 b]).run Try.prog w =
    .ok (.value (.tuple #[.int .u64 ((x - y - b) % 18446744073709551616), .int .u64 (if x < y + b then 1 else 0)])) w := by
  obtain ⟨x, rfl⟩ := Int.eq_ofNat_of_zero_le hx
  obtain ⟨y, rfl⟩ := Int.eq_ofNat_of_zero_le hy
  obtain ⟨b, rfl⟩ := Int.eq_ofNat_of_zero_le hb0
  have e1 : (((x + 18446744073709551616 - y - b) % 18446744073709551616 : Nat) : Int) = ((x : Int) - y - b) % 18446744073709551616 := by omega
  have e2 : ((if x < y + b then 1 else 0 : Nat) : Int) = if (x : Int) < y + b then 1 else 0 := by split <;> split <;> omega
  rw [← e1, ← e2, run_callFunc_extern Try.func49 (by kernel_rfl) (by kernel_rfl) (by kernel_rfl) (e := sub64Entry) (by kernel_rfl), run_sub64 x y b (by omega)]
  rfl
theorem mul64_any (x y : Int) (w : World) (h0 : 0 ≤ x) (h1 : x < 18446744073709551616) (h2 : 0 ≤ y) (h3 : y < 18446744073709551616) :
    Calls Try.prog 40 #[.int .u64 x, .int .u64 y] w fun e w' => e = .returned (.tuple #[.int .u64 (x * y / 18446744073709551616), .int .u64 (x * y % 18446744073709551616)]) ∧ Below w.heap.size w w' := by
  obtain ⟨x, rfl⟩ := Int.eq_ofNat_of_zero_le h0
  obtain ⟨y, rfl⟩ := Int.eq_ofNat_of_zero_le h2
  refine (Try.bits_Mul64 x y (by omega) (by omega) w).mono ?_
  rintro e w' ⟨rfl, rfl⟩
  exact ⟨by rw [Int.natCast_ediv, Int.natCast_emod, Int.natCast_mul]; rfl, Below.refl _ _⟩
theorem div64_c (hi lo y : Int) (w : World) (hhi : 0 ≤ hi) (hlo : 0 ≤ lo) (hlo' : lo < 18446744073709551616) (hy : hi < y) (hy' : y < 18446744073709551616) :
    Calls Try.prog 52 #[.int .u64 hi, .int .u64 lo, .int .u64 y] w fun e w' => e = .returned (.tuple #[.int .u64 ((hi * 18446744073709551616 + lo) / y), .int .u64 ((hi * 18446744073709551616 + lo) % y)]) ∧ Below w.heap.size w w' := by
  refine (div64_any hi lo y w hhi hlo hlo' hy hy').mono ?_
  rintro e w' ⟨rfl, n, rfl⟩
  exact ⟨rfl, ⟨rfl, rfl, rfl, Nat.le_refl _, fun _ _ => rfl⟩⟩
/-! ### A call of a function without a body -/
section
variable {c : Ctx} {F : Fence} {nn : Nat} {id : Nat} {ops : Array Oper} {draw : Bool} {Q : Exit → Act → World → Prop} {σ0 σ : Sf} {i : Nat} {rest : List Oper} {tr : List Tr} {sup : List Nat}
theorem callV (hF : WideLike F) {f : FuncId} {xs : List Operand} {tys : Array TypeId} {vs : List V} {L : List Value} {ks : List Key} {v : V} {Z : Value} {d : Option Tmp} {rt : TypeId} {pos : String} {af : Array Edge} {g : Option (Nat × Bool)}
    (he : ∀ w, (callFunc f L.toArray).run c.P w = .ok (.value Z) w) (hx : Vals σ xs vs ks) (hl : PlVs vs L) (hv : PlV v Z) (h1 : EW.oneV v = true) (hN : dOk c.N d = true) :
    LocalO c F nn ⟨d, .call ⟨.value (.func f), xs.toArray, tys⟩, rt, pos, af, g⟩ σ ⟨kr ks, putW d v⟩ :=
  LocalO.val hF hN (noDefer rfl) fun s e a w hag hR => ⟨Z, by
    have ee := hl.uniq (EW.Vals.evals hx (fun q hq => hag q (kr_iff.2 hq)) hR)
    simp only [execOp, resolve, invoke, Deferred.ofValue, List.map_toArray, ee, Sem.run_bind, Sem.run_pure, Result.andThen_ok, Act.eval]
    simp only [List.append_toArray, List.nil_append, List.append_nil, he], hv.ok h1, fun n hn => by rw [hv.names] at hn; cases hn⟩
theorem eCallV {d : Tmp} {f : FuncId} {xs : List Operand} {tys : Array TypeId} {vs : List V} {L : List Value} {ks : List Key} {Z : Value} {v : V} {rt : TypeId} {pos : String} {af : Array Edge} {g : Option (Nat × Bool)} {gk : List Key} [hF : WideLike F]
    (he : ∀ w, (callFunc f L.toArray).run c.P w = .ok (.value Z) w)
    (hr : RX c F nn id ops draw Q σ0 (i + 1) rest (upd σ [(.t d, .v v)]) (⟨orR gk (kr ks), [(.t d, .v v)]⟩ :: tr) sup)
    (hG : GOk ops σ g gk := by (first | apply GOk.none | (apply GOk.some; (· rfl); (· rfl); (· (first | with_reducible rfl | with_reducible assumption))))) (hx : Vals σ xs vs ks := by ((repeat (first | apply Vals.nil | (apply Vals.cons; (· rfl)))); done)) (hl : PlVs vs L := by (((repeat (first | apply PlVs.nil | (apply PlVs.cons; (focus (first | (with_reducible exact PlV.a (PlL.map _)) | exact PlV.a (EW.PlL.all (by rfl)) | (apply PlV.a; ((repeat (first | exact PlL.nil | apply PlL.cons)); (first | done | fail))) | (apply PlV.t; ((repeat (first | exact PlT.nil | (apply PlT.row; (focus (first | (with_reducible exact PlL.map _) | exact EW.PlL.all (by rfl) | ((repeat (first | exact PlL.nil | apply PlL.cons)); (first | done | fail))))) | apply PlT.one)); (first | done | fail))) | exact PlV.c))))); (first | done | fail)))) (hv : PlV v Z := by (first | (with_reducible exact PlV.a (PlL.map _)) | exact PlV.a (EW.PlL.all (by rfl)) | (apply PlV.a; ((repeat (first | exact PlL.nil | apply PlL.cons)); (first | done | fail))) | (apply PlV.t; ((repeat (first | exact PlT.nil | (apply PlT.row; (focus (first | (with_reducible exact PlL.map _) | exact EW.PlL.all (by rfl) | ((repeat (first | exact PlL.nil | apply PlL.cons)); (first | done | fail))))) | apply PlT.one)); (first | done | fail))) | exact PlV.c)) (h1 : EW.oneV v = true := by rfl) (hN : dOk c.N (some d) = true := by rfl) :
    RX c F nn id ops draw Q σ0 i (⟨some d, .call ⟨.value (.func f), xs.toArray, tys⟩, rt, pos, af, g⟩ :: rest) σ tr sup :=
  EW.RX_o (t := ⟨kr ks, [(.t d, .v v)]⟩) hr hG (callV hF he hx hl hv h1 hN)
end
/-- A number as one of 128 bits with a sign. -/
def w128 (z : Int) : Int := (z + 170141183460469231731687303715884105728) % 340282366920938463463374607431768211456 - 170141183460469231731687303715884105728
abbrev In128 (z : Int) : Prop := -170141183460469231731687303715884105728 ≤ z ∧ z < 170141183460469231731687303715884105728
theorem w128_in {z : Int} (h : In128 z) : w128 z = z := by unfold w128; omega
theorem w128_bounds (z : Int) : In128 (w128 z) := by unfold In128 w128; omega
theorem w2_eq {a b z : Int} (h1 : a = z / 18446744073709551616) (h2 : b = z % 18446744073709551616) : Ending.returned (.agg #[.int .i64 a, .int .u64 b]) = Ending.returned (W2 z) := by rw [h1, h2]
theorem natAbs_eq (n : Int) : (if n < 0 then -n else n) = (n.natAbs : Int) := by split <;> omega
theorem abs_prod {a b : Int} (ha0 : -9223372036854775808 ≤ a) (ha1 : a ≤ 9223372036854775807) (hb0 : -9223372036854775808 ≤ b) (hb1 : b ≤ 9223372036854775807) :
    0 ≤ (a.natAbs : Int) * b.natAbs ∧ (a.natAbs : Int) * b.natAbs ≤ 85070591730234615865843651857942052864 := by
  have h1 : a.natAbs * b.natAbs ≤ 9223372036854775808 * 9223372036854775808 := Nat.mul_le_mul (by omega) (by omega)
  have h2 : ((a.natAbs * b.natAbs : Nat) : Int) = (a.natAbs : Int) * b.natAbs := by push_cast; rfl
  rw [← h2]; omega
theorem prod_same {a b : Int} (h : (a < 0) ↔ (b < 0)) : (a.natAbs : Int) * b.natAbs = a * b := by
  rcases Int.lt_or_le a 0 with ha | ha
  · have hb := h.1 ha
    rw [Int.ofNat_natAbs_of_nonpos (by omega), Int.ofNat_natAbs_of_nonpos (by omega), Int.neg_mul_neg]
  · have hb : 0 ≤ b := by omega
    rw [Int.natAbs_of_nonneg ha, Int.natAbs_of_nonneg hb]
theorem prod_other {a b : Int} (h : ¬ ((a < 0) ↔ (b < 0))) : (a.natAbs : Int) * b.natAbs = -(a * b) := by
  rcases Int.lt_or_le a 0 with ha | ha
  · have hb : 0 ≤ b := by omega
    rw [Int.ofNat_natAbs_of_nonpos (by omega), Int.natAbs_of_nonneg hb, Int.neg_mul]
  · have hb : b < 0 := by omega
    rw [Int.natAbs_of_nonneg ha, Int.ofNat_natAbs_of_nonpos (by omega), Int.mul_neg]
theorem prod128 {a b : Int} (ha0 : -9223372036854775808 ≤ a) (ha1 : a ≤ 9223372036854775807) (hb0 : -9223372036854775808 ≤ b) (hb1 : b ≤ 9223372036854775807) : In128 (a * b) := by
  obtain ⟨h1, h2⟩ := abs_prod ha0 ha1 hb0 hb1
  have e : ((a * b).natAbs : Int) = (a.natAbs : Int) * b.natAbs := by rw [Int.natAbs_mul, Int.natCast_mul]
  unfold In128; omega
end Go.Proofs.Ytbjogekhedglgaa
