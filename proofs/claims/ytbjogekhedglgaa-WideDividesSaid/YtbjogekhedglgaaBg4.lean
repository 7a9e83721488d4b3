/- The document's numbers: which is less, of api.Wide, as api.Wide. -/
import Derived.Test.YtbjogekhedglgaaBg3
namespace Go.Proofs.Ytbjogekhedglgaa
set_option linter.unusedSimpArgs false
set_option linter.unusedVariables false
open Go.RowKit EV
open SX (Wr Tv Qu Rm Sh Is conjP eqs_iff eqs_false)
open EW (PlL PlT PlV PlVs LfV Mm Bt Opn GV)
set_option maxRecDepth 20000
theorem W20_lit : 57896044618658097711785492504343953926634992332820282019728792003956564819968 ≤ W20 := by decide
theorem rlessZ (x y : Int) (w : World) (h : x.natAbs + y.natAbs < W20) : Calls Try.prog 18 #[BZ x, BZ y] w fun e w' => e = .returned (.bool (decide (x < y))) ∧ Below w.heap.size w w' := by
  refine EW.eEnter Try.func18 rfl Try.ntmps18 ?_
  all_goals try (refine EW.nm ?_)
  all_goals try ((first | refine EW.eRegL (id := 0) ?_ | refine EW.eReg (id := 0) ?_); refine EW.eBox ?_; refine EW.eBox ?_; refine EW.eAssign ?_; refine EW.eEnd ?_; (try refine EW.nm ?_))
  all_goals try ((first | refine EW.eRegL (id := 1) ?_ | refine EW.eReg (id := 1) ?_); refine EW.eLoadA (k := 21) ?_; refine EW.eLoadA (k := 21) ?_; refine EW.eCall Try.call17 (fun w => rneg y w (by omega)) ?_; refine EW.eCall Try.call15 (fun w => radd x (-y) w (by omega)) ?_; refine EW.eAlloc ?_; (first | refine EW.eStoreW (k := 21) ?_ | refine EW.eStore (k := 21) ?_); refine EW.eDraw ?_; (try refine EW.nm ?_))
  all_goals try ((first | refine EW.eRegL (id := 2) ?_ | refine EW.eReg (id := 2) ?_); refine EW.eFieldAddr (k := 1) ?_; refine EW.eLoad1 ?_; refine EW.eAssign ?_; refine EW.eEnd ?_; (try refine EW.nm ?_))
  all_goals (refine EW.eLeaveP ?_; intro w' hW; refine ⟨?_, hW⟩)
  all_goals
    refine congrArg (fun b => Ending.returned (.bool b)) ?_
    rw [decide_eq_decide]; omega
theorem rtwo127 (w : World) : Calls Try.prog 20 #[.int .i64 127] w fun e w' => e = .returned (BZ 170141183460469231731687303715884105728) ∧ Below w.heap.size w w' := rtwo 127 w (by decide)
theorem rtwo128 (w : World) : Calls Try.prog 20 #[.int .i64 128] w fun e w' => e = .returned (BZ 340282366920938463463374607431768211456) ∧ Below w.heap.size w w' := rtwo 128 w (by decide)
theorem rtwo64 (w : World) : Calls Try.prog 20 #[.int .i64 64] w fun e w' => e = .returned (BZ 18446744073709551616) ∧ Below w.heap.size w w' := rtwo 64 w (by decide)
theorem rtwo63 (w : World) : Calls Try.prog 20 #[.int .i64 63] w fun e w' => e = .returned (BZ 9223372036854775808) ∧ Below w.heap.size w w' := rtwo 63 w (by decide)
/-- Numbers of 64 bits. -/
def Ok64 (l : List Int) : Prop := ∀ i, -9223372036854775808 ≤ l.getD i 0 ∧ l.getD i 0 ≤ 9223372036854775807
/-- A number of 128 bits. -/
abbrev W2 (z : Int) : Value := .agg #[.int .i64 (z / 18446744073709551616), .int .u64 (z % 18446744073709551616)]
theorem lo_is (N : Nat) : N % 18446744073709551616 = dg N 0 + 65536 * dg N 1 + 4294967296 * dg N 2 + 281474976710656 * dg N 3 := by
  have h0 := mod_succ N 0
  have h1 := mod_succ N 1
  have h2 := mod_succ N 2
  have h3 := mod_succ N 3
  simp only [Nat.reduceAdd, Nat.reducePow, Nat.mod_one] at h0 h1 h2 h3
  omega
theorem hi_is (N : Nat) : N / 18446744073709551616 % 18446744073709551616 = dg N 4 + 65536 * dg N 5 + 4294967296 * dg N 6 + 281474976710656 * dg N 7 := by
  have h := lo_is (N / 18446744073709551616)
  have e : ∀ i, dg (N / 18446744073709551616) i = dg N (4 + i) := fun i => by
    unfold dg; rw [Nat.pow_add, Nat.div_div_eq_div_mul]
  rw [e, e, e, e] at h
  exact h
theorem dg_all (N : Nat) : dg N 0 < 65536 ∧ dg N 1 < 65536 ∧ dg N 2 < 65536 ∧ dg N 3 < 65536 ∧ dg N 4 < 65536 ∧ dg N 5 < 65536 ∧ dg N 6 < 65536 ∧ dg N 7 < 65536 :=
  ⟨dg_lt _ _, dg_lt _ _, dg_lt _ _, dg_lt _ _, dg_lt _ _, dg_lt _ _, dg_lt _ _, dg_lt _ _⟩
instance (b : Bool) (n i : Nat) : EW.GetC ((big b n).map C.v) (i + 1) (.v (.int .u64 ((dg n i : Nat) : Int))) (i < 20) := ⟨fun h => by
  rw [List.getElem?_map]; show Option.map _ (dgs n)[i]? = _; rw [dgs_get n h]; rfl⟩
theorem to_fin {z : Int} {N : Nat} (h : (N : Int) = z ∨ (N : Int) = z + 340282366920938463463374607431768211456) (hz : -170141183460469231731687303715884105728 ≤ z ∧ z < 170141183460469231731687303715884105728) :
    Ending.returned (.tuple #[.agg #[.int .i64 (IntKind.i64.wrap ((((0 + ((dg N 7 : Nat) : Int)) * 65536 + ((dg N 6 : Nat) : Int)) * 65536 + ((dg N 5 : Nat) : Int)) * 65536 + ((dg N 4 : Nat) : Int))), .int .u64 ((((0 + ((dg N 3 : Nat) : Int)) * 65536 + ((dg N 2 : Nat) : Int)) * 65536 + ((dg N 1 : Nat) : Int)) * 65536 + ((dg N 0 : Nat) : Int))], .bool true]) = Ending.returned (.tuple #[W2 z, .bool true]) := by
  have h1 := lo_is N
  have h2 := hi_is N
  have e1 : IntKind.i64.wrap ((((0 + ((dg N 7 : Nat) : Int)) * 65536 + ((dg N 6 : Nat) : Int)) * 65536 + ((dg N 5 : Nat) : Int)) * 65536 + ((dg N 4 : Nat) : Int)) = z / 18446744073709551616 := by
    rw [show (((0 + ((dg N 7 : Nat) : Int)) * 65536 + ((dg N 6 : Nat) : Int)) * 65536 + ((dg N 5 : Nat) : Int)) * 65536 + ((dg N 4 : Nat) : Int) = ((N / 18446744073709551616 % 18446744073709551616 : Nat) : Int) from by omega, IntKind.wrap_i64]
    clear h1 h2; omega
  have e2 : (((0 + ((dg N 3 : Nat) : Int)) * 65536 + ((dg N 2 : Nat) : Int)) * 65536 + ((dg N 1 : Nat) : Int)) * 65536 + ((dg N 0 : Nat) : Int) = z % 18446744073709551616 := by
    rw [show (((0 + ((dg N 3 : Nat) : Int)) * 65536 + ((dg N 2 : Nat) : Int)) * 65536 + ((dg N 1 : Nat) : Int)) * 65536 + ((dg N 0 : Nat) : Int) = ((N % 18446744073709551616 : Nat) : Int) from by omega]
    clear h1 h2 e1; omega
  rw [e1, e2]
theorem rto (z : Int) (w : World) (h : z.natAbs < 1606938044258990275541962092341162602522202993782792835301376) : Calls Try.prog 10 #[BZ z] w fun e w' => e = .returned (if -170141183460469231731687303715884105728 ≤ z ∧ z < 170141183460469231731687303715884105728 then .tuple #[W2 z, .bool true] else .tuple #[W2 0, .bool false]) ∧ Below w.heap.size w w' := by
  have hW := W20_lit
  have hd1 := dg_all z.natAbs
  have hd2 := dg_all (z + 340282366920938463463374607431768211456).natAbs
  refine EW.eEnter Try.func10 rfl Try.ntmps10 ?_
  all_goals try (refine EW.nm ?_)
  all_goals try ((first | refine EW.eRegL (id := 0) ?_ | refine EW.eReg (id := 0) ?_); refine EW.eBox ?_; refine EW.eAlloc ?_; refine EW.eAssign ?_; refine EW.eEnd ?_; (try refine EW.nm ?_))
  all_goals try ((first | refine EW.eRegL (id := 1) ?_ | refine EW.eReg (id := 1) ?_); (first | refine EW.eCall Try.call20 (fun w => rtwo127 w) ?_ | refine EW.eCall Try.call20 (fun w => rtwo128 w) ?_); refine EW.eAlloc ?_; (first | refine EW.eStoreW (k := 21) ?_ | refine EW.eStore (k := 21) ?_); refine EW.eEnd ?_; (try refine EW.nm ?_))
  all_goals try ((first | refine EW.eRegL (id := 2) ?_ | refine EW.eReg (id := 2) ?_); refine EW.eLoadA (k := 21) ?_; refine EW.eLoadA (k := 21) ?_; (first | refine EW.eCall Try.call18 (fun w => rlessZ z 170141183460469231731687303715884105728 w (by omega)) ?_ | refine EW.eCall Try.call18 (fun w => rlessZ z (-170141183460469231731687303715884105728) w (by omega)) ?_); refine EW.eNot ?_; refine EW.eMove ?_)
  all_goals try (refine EW.eGuard (j := 4) (o := ⟨some 14, _, _, _, _, _⟩) ?_ ?_ <;> (intro hb hb'; (try dsimp only at hb'); (try (exfalso; first | omega | with_reducible exact absurd rfl hb'))))
  all_goals try ((first | refine EW.eSkipF (j := 4) ?_ | refine EW.eSkipU (j := 4) ?_ | refine EW.eLoadA (k := 21) ?_); (first | refine EW.eSkipF (j := 4) ?_ | refine EW.eSkipU (j := 4) ?_ | refine EW.eLoadA (k := 21) ?_); (first | refine EW.eSkipF (j := 4) ?_ | refine EW.eSkipU (j := 4) ?_ | refine EW.eCall Try.call17 (fun w => rneg 170141183460469231731687303715884105728 w (by omega)) ?_); (first | refine EW.eSkipF (j := 4) ?_ | refine EW.eSkipU (j := 4) ?_ | refine EW.eCall Try.call18 (fun w => rlessZ z 170141183460469231731687303715884105728 w (by omega)) ?_ | refine EW.eCall Try.call18 (fun w => rlessZ z (-170141183460469231731687303715884105728) w (by omega)) ?_); (first | refine EW.ePickT ?_ | refine EW.ePickF ?_); refine EW.eDraw ?_; (try refine EW.nm ?_))
  all_goals try (first | refine EW.eYes (x := Operand.tmp 18) ?_ | refine EW.eNo (x := Operand.tmp 18) ?_ | (refine EW.eCond (x := Operand.tmp 18) ?_ ?_ <;> (intro hb hb'; (try dsimp only at hb'); (try (exfalso; first | omega | with_reducible exact absurd rfl hb')))))
  all_goals try (refine EW.nm ?_)
  all_goals try ((first | refine EW.eRegL (id := 3) ?_ | refine EW.eReg (id := 3) ?_); refine EW.eBuild (place := fun i => [(0, 1), (1, 1)][i]?) ?_; (first | refine EW.eStoreW (k := 2) ?_ | refine EW.eStore (k := 2) ?_); refine EW.eAssign ?_; refine EW.eEnd ?_; (try refine EW.nm ?_))
  all_goals try ((first | refine EW.eRegL (id := 4) ?_ | refine EW.eReg (id := 4) ?_); refine EW.eFieldAddr (k := 1) ?_; refine EW.eLoad1 ?_; refine EW.eEnd ?_; (try refine EW.nm ?_))
  all_goals try (first | refine EW.eYes (x := Operand.tmp 21) ?_ | refine EW.eNo (x := Operand.tmp 21) ?_ | (refine EW.eCond (x := Operand.tmp 21) ?_ ?_ <;> (intro hb hb'; (try dsimp only at hb'); (try (exfalso; first | omega | with_reducible exact absurd rfl hb')))))
  all_goals try (refine EW.nm ?_)
  all_goals try ((first | refine EW.eRegL (id := 5) ?_ | refine EW.eReg (id := 5) ?_); refine EW.eLoadA (k := 21) ?_; (first | refine EW.eCall Try.call20 (fun w => rtwo127 w) ?_ | refine EW.eCall Try.call20 (fun w => rtwo128 w) ?_); refine EW.eCall Try.call15 (fun w => radd z 340282366920938463463374607431768211456 w (by omega)) ?_; (first | refine EW.eStoreW (k := 21) ?_ | refine EW.eStore (k := 21) ?_); refine EW.eDraw ?_; (try refine EW.nm ?_))
  all_goals try ((first | refine EW.eRegL (id := 6) ?_ | refine EW.eReg (id := 6) ?_); refine EW.eAssign ?_; refine EW.eEnd ?_; (try refine EW.nm ?_))
  all_goals try ((first | refine EW.eRegL (id := 7) ?_ | refine EW.eReg (id := 7) ?_); refine EW.eAssign ?_; refine EW.eEnd ?_; (try refine EW.nm ?_))
  all_goals try ((first | refine EW.eRegL (id := 8) ?_ | refine EW.eReg (id := 8) ?_); refine EW.eAssign ?_; refine EW.eEnd ?_; (try refine EW.nm ?_))
  all_goals try (refine EW.eUnroll 5 ?_)
  all_goals try (refine EW.nm ?_)
  iterate 5 (
    all_goals try ((first | refine EW.eRegL (id := 9) ?_ | refine EW.eReg (id := 9) ?_); refine EW.eMove ?_; refine EW.eGeq ?_; refine EW.eEnd ?_; (try refine EW.nm ?_))
    all_goals try (first | refine EW.eYes (x := Operand.tmp 26) ?_ | refine EW.eNo (x := Operand.tmp 26) ?_ | (refine EW.eCond (x := Operand.tmp 26) ?_ ?_ <;> (intro hb hb'; (try dsimp only at hb'); (try (exfalso; first | omega | with_reducible exact absurd rfl hb')))))
    all_goals try (refine EW.nm ?_)
    all_goals try ((first | refine EW.eRegL (id := 11) ?_ | refine EW.eReg (id := 11) ?_); refine EW.eMove ?_; refine EW.eMul ?_; refine EW.eMove ?_; refine EW.eFieldAddr (k := 20) ?_; refine EW.eIndexAddr (z := 1) ?_; refine EW.eLoad1 ?_; refine EW.eAdd ?_; refine EW.eAssign ?_; refine EW.eEnd ?_; (try refine EW.nm ?_))
    all_goals try ((first | refine EW.eRegL (id := 12) ?_ | refine EW.eReg (id := 12) ?_); refine EW.eMove ?_; refine EW.eMul ?_; refine EW.eMove ?_; refine EW.eAdd ?_; refine EW.eFieldAddr (k := 20) ?_; refine EW.eIndexAddr (z := 1) ?_; refine EW.eLoad1 ?_; refine EW.eAdd ?_; refine EW.eAssign ?_; refine EW.eEnd ?_; (try refine EW.nm ?_))
    all_goals try ((first | refine EW.eRegL (id := 10) ?_ | refine EW.eReg (id := 10) ?_); refine EW.eMove ?_; refine EW.eSub ?_; refine EW.eAssign ?_; refine EW.eEnd ?_; (try refine EW.nm ?_)))
  all_goals try ((first | refine EW.eRegL (id := 13) ?_ | refine EW.eReg (id := 13) ?_); refine EW.eMove ?_; refine EW.eConv ?_; refine EW.eMove ?_; refine EW.eBuild (place := fun i => [(0, 1), (1, 1)][i]?) ?_; (first | refine EW.eStoreW (k := 2) ?_ | refine EW.eStore (k := 2) ?_); refine EW.eAssign ?_; refine EW.eEnd ?_; (try refine EW.nm ?_))
  all_goals (refine EW.eLeaveP ?_; intro w' hW; refine ⟨?_, hW⟩)
  · rw [if_neg (by omega)]; rfl
  · rw [if_neg (by omega)]; rfl
  · rw [if_pos (by omega)]; exact to_fin (by omega) (by omega)
  · rw [if_pos (by omega)]; exact to_fin (by omega) (by omega)
end Go.Proofs.Ytbjogekhedglgaa
