/- ViewMoves: the row. -/
import Derived.Test.YthclhmdgfekaeaaHVm3
import Derived.Test.YthclhmdgfekaeaaHRow4
namespace Go.Proofs.Ythclhmdgfekaeaa
open Go.ChangeShapes Go.WideShapes Go.ChangeAt Go.RowKit
open Go.ChangeMaps (open_string shut_string)
open Go.Joins (open_agg2 open_agg3 open_agg4)
set_option maxRecDepth 100000 in
theorem viewMoves_lifted (os : Os) (started : os.Started) (H : Type) (enc : TypeId × Value → H) :
    ReturnsInHanded {} Try.checked os 10 .any (Rows.viewMovesSpec.pre6 enc Try.prog Try.f10 Rows.viewMovesRow.domain false) (Rows.viewMovesSpec.post enc Try.prog Try.f10 false true false false) := by
  refine returnsInHanded_of_change (C := Try.checked) own started (by kernel_rfl) Try.func10
    (ChangeSpec.witness6 (enc := enc) (C := Try.checked) false ⟨#[], #[.slice none 0 0, .agg #[.int .i32 0, .int .i32 0, .int .i32 0]], []⟩ 8 (by kernel_rfl) (by kernel_rfl) (by kernel_rfl) (by kernel_rfl)) ?_
  intro W base args ds gs before hval0 hW hcnd _
  have hval : ∀ (j : Nat) t v, Try.f10.params[j]? = some t → args[j]? = some v → Value.okWide Try.prog W .any base t v := hval0
  have hW' := hW
  obtain ⟨p, q, hA0, hV, rfl, hfz, hnd⟩ := hW
  have hA : DataW.TrodAll enc Try.prog W 0 (fun _ => true) true Try.f10.params.toList args.toList ds p := hA0
  rw [Try.params10] at hA hval
  obtain ⟨v0, vs0, d0, ds0, p0, q0, hargs, rfl, rfl, h0, r0⟩ := trodAll_cons hA
  obtain ⟨v1, vs1, d1, ds1, p1, q1, rfl, rfl, rfl, h1, r1⟩ := trodAll_cons r0
  obtain ⟨rfl, rfl, rfl⟩ := trodAll_nil r1
  obtain rfl : args = #[v0, v1] := by cases args; simp_all
  obtain ⟨rfl, rfl⟩ := trodVars_none hV
  have k0 := h0
  have lt0 : ∀ x ∈ p0, x.block < W.heap.size := by obtain ⟨m, hm⟩ := k0; exact DataW.trod_lt m _ _ _ hm
  have k1 := h1
  have lt1 : ∀ x ∈ p1, x.block < W.heap.size := by obtain ⟨m, hm⟩ := k1; exact DataW.trod_lt m _ _ _ hm
  obtain ⟨b0, o0, len0, room0, rows0, hl0, ft0, sr0, hv0⟩ := open_rowsG (ks := [.i .i64, .i .i64, .i .i64]) Try.underlying52 (by kernel_rfl) (by kernel_rfl) (by decide) (hval 0 52 _ rfl rfl) h0
  obtain ⟨vl1, rfl, ft1⟩ := open_flat (ks := [.i .i32, .i .i32, .i .i32]) (by kernel_rfl) Try.underlying63 rfl (hval 1 63 _ rfl rfl) h1
  obtain ⟨x1_0, r1_0, rfl, wa1_0, wb1_0, x1_1, r1_1, rfl, wa1_1, wb1_1, x1_2, r1_2, rfl, wa1_2, wb1_2, rfl⟩ := ft1
  clear hA0 hval0
  refine (vmv_row W x1_0 x1_1 x1_2 hl0 ft0 sr0 hv0 (rg_i32 ⟨wa1_0, wb1_0⟩).1 (rg_i32 ⟨wa1_0, wb1_0⟩).2 (rg_i32 ⟨wa1_1, wb1_1⟩).1 (rg_i32 ⟨wa1_1, wb1_1⟩).2 (rg_i32 ⟨wa1_2, wb1_2⟩).1 (rg_i32 ⟨wa1_2, wb1_2⟩).2).mono fun e W' ⟨he, bel⟩ => ?_
  subst he
  exact ⟨_, rfl, _, _, _, [], _, [], hW', trodAll_mk1 (shut_bool Try.underlying4 _), (trodAll_cons_mk (Below.trod laidOut (by kernel_rfl) (of_decide_eq_true (by kernel_rfl)) k0 bel lt0) (trodAll_cons_mk (Below.trod laidOut (by kernel_rfl) (of_decide_eq_true (by kernel_rfl)) k1 bel lt1) trodAll_mk0)), rfl, bel.frame _, fun h => by cases h⟩
/-- The statement. -/
theorem viewMoves_holds : Rows.ViewMovesSaid :=
  OpenClaim.holds_of_wide 10 Try.f10 rfl rfl rfl rfl rfl rfl rfl ⟨rfl, rfl, rfl, rfl, rfl⟩ rfl rfl rfl rfl rfl (by kernel_rfl) Try.func10 (by kernel_rfl)
    (of_decide_eq_true (by kernel_rfl)) (by unfold Func.isWrapper; first | (rw [if_pos (by decide +kernel)]; kernel_rfl) | (rw [if_neg (by decide +kernel)]; exact ⟨rfl, rfl⟩))
    (fun os started H enc _ => viewMoves_lifted os started H enc)
#print axioms viewMoves_holds
end Go.Proofs.Ythclhmdgfekaeaa
