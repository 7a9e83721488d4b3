/- MatrixNeutral: the identity changes nothing; Across of a product is the product of both Across, the other way about. -/
import Derived.Test.YtgjbhocahpplbaaMtD
import Derived.Test.YtgjbhocahpplbaaZR
namespace Go.Proofs.Ytgjbhocahpplbaa
open Go.ChangeShapes Go.WideShapes Go.ChangeAt Go.RowKit
open Go.ChangeMaps (open_string shut_string)
open Go.Joins (open_agg2 open_agg3 open_agg4)

set_option maxHeartbeats 4000000 in
set_option maxRecDepth 100000 in
theorem matrixNeutral_lifted (os : Os) (started : os.Started) (H : Type) (enc : TypeId × Value → H) :
    ReturnsInHanded {} Try.checked os 6 .any (Rows.matrixNeutralSpec.pre6 enc Try.prog Try.f6 Rows.matrixNeutralRow.domain false) (Rows.matrixNeutralSpec.post enc Try.prog Try.f6 false true false false) := by
  refine returnsInHanded_of_change (C := Try.checked) own started (by kernel_rfl) Try.func6
    (ChangeSpec.witness6 (enc := enc) (C := Try.checked) false ⟨#[], #[.agg #[.int .i64 0, .int .i64 0, .int .i64 0, .int .i64 0, .int .i64 0, .int .i64 0, .int .i64 0, .int .i64 0, .int .i64 0, .int .i64 0, .int .i64 0, .int .i64 0, .int .i64 0, .int .i64 0, .int .i64 0, .int .i64 0], .agg #[.int .i64 0, .int .i64 0, .int .i64 0, .int .i64 0, .int .i64 0, .int .i64 0, .int .i64 0, .int .i64 0, .int .i64 0, .int .i64 0, .int .i64 0, .int .i64 0, .int .i64 0, .int .i64 0, .int .i64 0, .int .i64 0], .agg #[.int .i64 0, .int .i64 0, .int .i64 0, .int .i64 0]], []⟩ 8 (by kernel_rfl) (by kernel_rfl) (by kernel_rfl) (by kernel_rfl)) ?_
  intro W base args ds gs before hval0 hW hcnd _
  have hval : ∀ (j : Nat) t v, Try.f6.params[j]? = some t → args[j]? = some v → Value.okWide Try.prog W .any base t v := hval0
  have hW' := hW
  obtain ⟨p, q, hA0, hV, rfl, hfz, hnd⟩ := hW
  have hA : DataW.TrodAll enc Try.prog W 0 (fun _ => true) true Try.f6.params.toList args.toList ds p := hA0
  rw [Try.params6] at hA hval
  obtain ⟨v0, vs0, d0, ds0, p0, q0, hargs, rfl, rfl, h0, r0⟩ := trodAll_cons hA
  obtain ⟨v1, vs1, d1, ds1, p1, q1, rfl, rfl, rfl, h1, r1⟩ := trodAll_cons r0
  obtain ⟨v2, vs2, d2, ds2, p2, q2, rfl, rfl, rfl, h2, r2⟩ := trodAll_cons r1
  obtain ⟨rfl, rfl, rfl⟩ := trodAll_nil r2
  obtain rfl : args = #[v0, v1, v2] := by cases args; simp_all
  obtain ⟨rfl, rfl⟩ := trodVars_none hV
  have k0 := h0
  have lt0 : ∀ x ∈ p0, x.block < W.heap.size := by obtain ⟨m, hm⟩ := k0; exact DataW.trod_lt m _ _ _ hm
  have k1 := h1
  have lt1 : ∀ x ∈ p1, x.block < W.heap.size := by obtain ⟨m, hm⟩ := k1; exact DataW.trod_lt m _ _ _ hm
  have k2 := h2
  have lt2 : ∀ x ∈ p2, x.block < W.heap.size := by obtain ⟨m, hm⟩ := k2; exact DataW.trod_lt m _ _ _ hm
  obtain ⟨vl0, rfl, ft0⟩ := open_flat (ks := [.i .i64, .i .i64, .i .i64, .i .i64, .i .i64, .i .i64, .i .i64, .i .i64, .i .i64, .i .i64, .i .i64, .i .i64, .i .i64, .i .i64, .i .i64, .i .i64]) (by kernel_rfl) Try.underlying25 rfl (hval 0 25 _ rfl rfl) h0
  obtain ⟨x0_0, r0_0, rfl, wa0_0, wb0_0, x0_1, r0_1, rfl, wa0_1, wb0_1, x0_2, r0_2, rfl, wa0_2, wb0_2, x0_3, r0_3, rfl, wa0_3, wb0_3, x0_4, r0_4, rfl, wa0_4, wb0_4, x0_5, r0_5, rfl, wa0_5, wb0_5, x0_6, r0_6, rfl, wa0_6, wb0_6, x0_7, r0_7, rfl, wa0_7, wb0_7, x0_8, r0_8, rfl, wa0_8, wb0_8, x0_9, r0_9, rfl, wa0_9, wb0_9, x0_10, r0_10, rfl, wa0_10, wb0_10, x0_11, r0_11, rfl, wa0_11, wb0_11, x0_12, r0_12, rfl, wa0_12, wb0_12, x0_13, r0_13, rfl, wa0_13, wb0_13, x0_14, r0_14, rfl, wa0_14, wb0_14, x0_15, r0_15, rfl, wa0_15, wb0_15, rfl⟩ := ft0
  obtain ⟨vl1, rfl, ft1⟩ := open_flat (ks := [.i .i64, .i .i64, .i .i64, .i .i64, .i .i64, .i .i64, .i .i64, .i .i64, .i .i64, .i .i64, .i .i64, .i .i64, .i .i64, .i .i64, .i .i64, .i .i64]) (by kernel_rfl) Try.underlying25 rfl (hval 1 25 _ rfl rfl) h1
  obtain ⟨x1_0, r1_0, rfl, wa1_0, wb1_0, x1_1, r1_1, rfl, wa1_1, wb1_1, x1_2, r1_2, rfl, wa1_2, wb1_2, x1_3, r1_3, rfl, wa1_3, wb1_3, x1_4, r1_4, rfl, wa1_4, wb1_4, x1_5, r1_5, rfl, wa1_5, wb1_5, x1_6, r1_6, rfl, wa1_6, wb1_6, x1_7, r1_7, rfl, wa1_7, wb1_7, x1_8, r1_8, rfl, wa1_8, wb1_8, x1_9, r1_9, rfl, wa1_9, wb1_9, x1_10, r1_10, rfl, wa1_10, wb1_10, x1_11, r1_11, rfl, wa1_11, wb1_11, x1_12, r1_12, rfl, wa1_12, wb1_12, x1_13, r1_13, rfl, wa1_13, wb1_13, x1_14, r1_14, rfl, wa1_14, wb1_14, x1_15, r1_15, rfl, wa1_15, wb1_15, rfl⟩ := ft1
  obtain ⟨vl2, rfl, ft2⟩ := open_flat (ks := [.i .i64, .i .i64, .i .i64, .i .i64]) (by kernel_rfl) Try.underlying23 rfl (hval 2 23 _ rfl rfl) h2
  obtain ⟨x2_0, r2_0, rfl, wa2_0, wb2_0, x2_1, r2_1, rfl, wa2_1, wb2_1, x2_2, r2_2, rfl, wa2_2, wb2_2, x2_3, r2_3, rfl, wa2_3, wb2_3, rfl⟩ := ft2
  clear hA0 hval0
  refine (neutral_any W x0_0 x0_1 x0_2 x0_3 x0_4 x0_5 x0_6 x0_7 x0_8 x0_9 x0_10 x0_11 x0_12 x0_13 x0_14 x0_15 x1_0 x1_1 x1_2 x1_3 x1_4 x1_5 x1_6 x1_7 x1_8 x1_9 x1_10 x1_11 x1_12 x1_13 x1_14 x1_15 x2_0 x2_1 x2_2 x2_3  (rg_i64 ⟨wa0_0, wb0_0⟩).1 (rg_i64 ⟨wa0_0, wb0_0⟩).2 (rg_i64 ⟨wa0_1, wb0_1⟩).1 (rg_i64 ⟨wa0_1, wb0_1⟩).2 (rg_i64 ⟨wa0_2, wb0_2⟩).1 (rg_i64 ⟨wa0_2, wb0_2⟩).2 (rg_i64 ⟨wa0_3, wb0_3⟩).1 (rg_i64 ⟨wa0_3, wb0_3⟩).2 (rg_i64 ⟨wa0_4, wb0_4⟩).1 (rg_i64 ⟨wa0_4, wb0_4⟩).2 (rg_i64 ⟨wa0_5, wb0_5⟩).1 (rg_i64 ⟨wa0_5, wb0_5⟩).2 (rg_i64 ⟨wa0_6, wb0_6⟩).1 (rg_i64 ⟨wa0_6, wb0_6⟩).2 (rg_i64 ⟨wa0_7, wb0_7⟩).1 (rg_i64 ⟨wa0_7, wb0_7⟩).2 (rg_i64 ⟨wa0_8, wb0_8⟩).1 (rg_i64 ⟨wa0_8, wb0_8⟩).2 (rg_i64 ⟨wa0_9, wb0_9⟩).1 (rg_i64 ⟨wa0_9, wb0_9⟩).2 (rg_i64 ⟨wa0_10, wb0_10⟩).1 (rg_i64 ⟨wa0_10, wb0_10⟩).2 (rg_i64 ⟨wa0_11, wb0_11⟩).1 (rg_i64 ⟨wa0_11, wb0_11⟩).2 (rg_i64 ⟨wa0_12, wb0_12⟩).1 (rg_i64 ⟨wa0_12, wb0_12⟩).2 (rg_i64 ⟨wa0_13, wb0_13⟩).1 (rg_i64 ⟨wa0_13, wb0_13⟩).2 (rg_i64 ⟨wa0_14, wb0_14⟩).1 (rg_i64 ⟨wa0_14, wb0_14⟩).2 (rg_i64 ⟨wa0_15, wb0_15⟩).1 (rg_i64 ⟨wa0_15, wb0_15⟩).2 (rg_i64 ⟨wa1_0, wb1_0⟩).1 (rg_i64 ⟨wa1_0, wb1_0⟩).2 (rg_i64 ⟨wa1_1, wb1_1⟩).1 (rg_i64 ⟨wa1_1, wb1_1⟩).2 (rg_i64 ⟨wa1_2, wb1_2⟩).1 (rg_i64 ⟨wa1_2, wb1_2⟩).2 (rg_i64 ⟨wa1_3, wb1_3⟩).1 (rg_i64 ⟨wa1_3, wb1_3⟩).2 (rg_i64 ⟨wa1_4, wb1_4⟩).1 (rg_i64 ⟨wa1_4, wb1_4⟩).2 (rg_i64 ⟨wa1_5, wb1_5⟩).1 (rg_i64 ⟨wa1_5, wb1_5⟩).2 (rg_i64 ⟨wa1_6, wb1_6⟩).1 (rg_i64 ⟨wa1_6, wb1_6⟩).2 (rg_i64 ⟨wa1_7, wb1_7⟩).1 (rg_i64 ⟨wa1_7, wb1_7⟩).2 (rg_i64 ⟨wa1_8, wb1_8⟩).1 (rg_i64 ⟨wa1_8, wb1_8⟩).2 (rg_i64 ⟨wa1_9, wb1_9⟩).1 (rg_i64 ⟨wa1_9, wb1_9⟩).2 (rg_i64 ⟨wa1_10, wb1_10⟩).1 (rg_i64 ⟨wa1_10, wb1_10⟩).2 (rg_i64 ⟨wa1_11, wb1_11⟩).1 (rg_i64 ⟨wa1_11, wb1_11⟩).2 (rg_i64 ⟨wa1_12, wb1_12⟩).1 (rg_i64 ⟨wa1_12, wb1_12⟩).2 (rg_i64 ⟨wa1_13, wb1_13⟩).1 (rg_i64 ⟨wa1_13, wb1_13⟩).2 (rg_i64 ⟨wa1_14, wb1_14⟩).1 (rg_i64 ⟨wa1_14, wb1_14⟩).2 (rg_i64 ⟨wa1_15, wb1_15⟩).1 (rg_i64 ⟨wa1_15, wb1_15⟩).2 (rg_i64 ⟨wa2_0, wb2_0⟩).1 (rg_i64 ⟨wa2_0, wb2_0⟩).2 (rg_i64 ⟨wa2_1, wb2_1⟩).1 (rg_i64 ⟨wa2_1, wb2_1⟩).2 (rg_i64 ⟨wa2_2, wb2_2⟩).1 (rg_i64 ⟨wa2_2, wb2_2⟩).2 (rg_i64 ⟨wa2_3, wb2_3⟩).1 (rg_i64 ⟨wa2_3, wb2_3⟩).2).mono fun e W' ⟨he, bel⟩ => ?_
  subst he
  exact ⟨_, rfl, _, _, _, [], _, [], hW', trodAll_mk1 (shut_bool Try.underlying4 _), (trodAll_cons_mk (Below.trod laidOut (by kernel_rfl) (of_decide_eq_true (by kernel_rfl)) k0 bel lt0) (trodAll_cons_mk (Below.trod laidOut (by kernel_rfl) (of_decide_eq_true (by kernel_rfl)) k1 bel lt1) (trodAll_cons_mk (Below.trod laidOut (by kernel_rfl) (of_decide_eq_true (by kernel_rfl)) k2 bel lt2) trodAll_mk0))), rfl, bel.frame _, fun h => by cases h⟩

/-- The statement. -/
theorem matrixNeutral_holds : Rows.MatrixNeutralSaid :=
  OpenClaim.holds_of_wide 6 Try.f6 rfl rfl rfl rfl rfl rfl rfl ⟨rfl, rfl, rfl, rfl, rfl⟩ rfl rfl rfl rfl rfl (by kernel_rfl) Try.func6 (by kernel_rfl)
    (of_decide_eq_true (by kernel_rfl)) (by unfold Func.isWrapper; first | (rw [if_pos (by decide +kernel)]; kernel_rfl) | (rw [if_neg (by decide +kernel)]; exact ⟨rfl, rfl⟩))
    (fun os started H enc _ => matrixNeutral_lifted os started H enc)
#print axioms matrixNeutral_holds
end Go.Proofs.Ytgjbhocahpplbaa
