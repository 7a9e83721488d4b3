/- ViewThrough: what any matrix makes of any vertices is the document's. -/
import Derived.Test.YthclhmdgfekaeaaHVt4
import Derived.Test.YthclhmdgfekaeaaHRow4
namespace Go.Proofs.Ythclhmdgfekaeaa
open Go.ChangeShapes Go.WideShapes Go.ChangeAt Go.RowKit
open Go.ChangeMaps (open_string shut_string)
open Go.Joins (open_agg2 open_agg3 open_agg4)
set_option maxRecDepth 100000 in
theorem viewThrough_lifted (os : Os) (started : os.Started) (H : Type) (enc : TypeId × Value → H) :
    ReturnsInHanded {} Try.checked os 8 .any (Rows.viewThroughSpec.pre6 enc Try.prog Try.f8 Rows.viewThroughRow.domain false) (Rows.viewThroughSpec.post enc Try.prog Try.f8 false true false false) := by
  refine returnsInHanded_of_change (C := Try.checked) own started (by kernel_rfl) Try.func8
    (ChangeSpec.witness6 (enc := enc) (C := Try.checked) false ⟨#[], #[.agg #[.int .i64 0, .int .i64 0, .int .i64 0, .int .i64 0, .int .i64 0, .int .i64 0, .int .i64 0, .int .i64 0, .int .i64 0, .int .i64 0, .int .i64 0, .int .i64 0, .int .i64 0, .int .i64 0, .int .i64 0, .int .i64 0], .slice none 0 0], []⟩ 8 (by kernel_rfl) (by kernel_rfl) (by kernel_rfl) (by kernel_rfl)) ?_
  intro W base args ds gs before hval0 hW hcnd _
  have hval : ∀ (j : Nat) t v, Try.f8.params[j]? = some t → args[j]? = some v → Value.okWide Try.prog W .any base t v := hval0
  have hW' := hW
  obtain ⟨p, q, hA0, hV, rfl, hfz, hnd⟩ := hW
  have hA : DataW.TrodAll enc Try.prog W 0 (fun _ => true) true Try.f8.params.toList args.toList ds p := hA0
  rw [Try.params8] at hA hval
  obtain ⟨v0, vs0, d0, ds0, p0, q0, hargs, rfl, rfl, h0, r0⟩ := trodAll_cons hA
  obtain ⟨v1, vs1, d1, ds1, p1, q1, rfl, rfl, rfl, h1, r1⟩ := trodAll_cons r0
  obtain ⟨rfl, rfl, rfl⟩ := trodAll_nil r1
  obtain rfl : args = #[v0, v1] := by cases args; simp_all
  obtain ⟨rfl, rfl⟩ := trodVars_none hV
  have k0 := h0
  have lt0 : ∀ x ∈ p0, x.block < W.heap.size := by obtain ⟨m, hm⟩ := k0; exact DataW.trod_lt m _ _ _ hm
  have k1 := h1
  have lt1 : ∀ x ∈ p1, x.block < W.heap.size := by obtain ⟨m, hm⟩ := k1; exact DataW.trod_lt m _ _ _ hm
  obtain ⟨vl0, rfl, ft0⟩ := open_flat (ks := [.i .i64, .i .i64, .i .i64, .i .i64, .i .i64, .i .i64, .i .i64, .i .i64, .i .i64, .i .i64, .i .i64, .i .i64, .i .i64, .i .i64, .i .i64, .i .i64]) (by kernel_rfl) Try.underlying51 rfl (hval 0 51 _ rfl rfl) h0
  obtain ⟨x0_0, r0_0, rfl, wa0_0, wb0_0, x0_1, r0_1, rfl, wa0_1, wb0_1, x0_2, r0_2, rfl, wa0_2, wb0_2, x0_3, r0_3, rfl, wa0_3, wb0_3, x0_4, r0_4, rfl, wa0_4, wb0_4, x0_5, r0_5, rfl, wa0_5, wb0_5, x0_6, r0_6, rfl, wa0_6, wb0_6, x0_7, r0_7, rfl, wa0_7, wb0_7, x0_8, r0_8, rfl, wa0_8, wb0_8, x0_9, r0_9, rfl, wa0_9, wb0_9, x0_10, r0_10, rfl, wa0_10, wb0_10, x0_11, r0_11, rfl, wa0_11, wb0_11, x0_12, r0_12, rfl, wa0_12, wb0_12, x0_13, r0_13, rfl, wa0_13, wb0_13, x0_14, r0_14, rfl, wa0_14, wb0_14, x0_15, r0_15, rfl, wa0_15, wb0_15, rfl⟩ := ft0
  obtain ⟨b1, o1, len1, room1, rows1, hl1, ft1, sr1, hv1⟩ := open_rowsG (ks := [.i .i64, .i .i64, .i .i64]) Try.underlying52 (by kernel_rfl) (by kernel_rfl) (by decide) (hval 1 52 _ rfl rfl) h1
  clear hA0 hval0
  refine (thr_row W x0_0 x0_1 x0_2 x0_3 x0_4 x0_5 x0_6 x0_7 x0_8 x0_9 x0_10 x0_11 x0_12 x0_13 x0_14 x0_15 hl1 ft1 sr1 hv1 (rg_i64 ⟨wa0_0, wb0_0⟩).1 (rg_i64 ⟨wa0_0, wb0_0⟩).2 (rg_i64 ⟨wa0_1, wb0_1⟩).1 (rg_i64 ⟨wa0_1, wb0_1⟩).2 (rg_i64 ⟨wa0_2, wb0_2⟩).1 (rg_i64 ⟨wa0_2, wb0_2⟩).2 (rg_i64 ⟨wa0_3, wb0_3⟩).1 (rg_i64 ⟨wa0_3, wb0_3⟩).2 (rg_i64 ⟨wa0_4, wb0_4⟩).1 (rg_i64 ⟨wa0_4, wb0_4⟩).2 (rg_i64 ⟨wa0_5, wb0_5⟩).1 (rg_i64 ⟨wa0_5, wb0_5⟩).2 (rg_i64 ⟨wa0_6, wb0_6⟩).1 (rg_i64 ⟨wa0_6, wb0_6⟩).2 (rg_i64 ⟨wa0_7, wb0_7⟩).1 (rg_i64 ⟨wa0_7, wb0_7⟩).2 (rg_i64 ⟨wa0_8, wb0_8⟩).1 (rg_i64 ⟨wa0_8, wb0_8⟩).2 (rg_i64 ⟨wa0_9, wb0_9⟩).1 (rg_i64 ⟨wa0_9, wb0_9⟩).2 (rg_i64 ⟨wa0_10, wb0_10⟩).1 (rg_i64 ⟨wa0_10, wb0_10⟩).2 (rg_i64 ⟨wa0_11, wb0_11⟩).1 (rg_i64 ⟨wa0_11, wb0_11⟩).2 (rg_i64 ⟨wa0_12, wb0_12⟩).1 (rg_i64 ⟨wa0_12, wb0_12⟩).2 (rg_i64 ⟨wa0_13, wb0_13⟩).1 (rg_i64 ⟨wa0_13, wb0_13⟩).2 (rg_i64 ⟨wa0_14, wb0_14⟩).1 (rg_i64 ⟨wa0_14, wb0_14⟩).2 (rg_i64 ⟨wa0_15, wb0_15⟩).1 (rg_i64 ⟨wa0_15, wb0_15⟩).2).mono fun e W' ⟨he, bel⟩ => ?_
  subst he
  exact ⟨_, rfl, _, _, _, [], _, [], hW', trodAll_mk1 (shut_bool Try.underlying4 _), (trodAll_cons_mk (Below.trod laidOut (by kernel_rfl) (of_decide_eq_true (by kernel_rfl)) k0 bel lt0) (trodAll_cons_mk (Below.trod laidOut (by kernel_rfl) (of_decide_eq_true (by kernel_rfl)) k1 bel lt1) trodAll_mk0)), rfl, bel.frame _, fun h => by cases h⟩
/-- The statement. -/
theorem viewThrough_holds : Rows.ViewThroughSaid :=
  OpenClaim.holds_of_wide 8 Try.f8 rfl rfl rfl rfl rfl rfl rfl ⟨rfl, rfl, rfl, rfl, rfl⟩ rfl rfl rfl rfl rfl (by kernel_rfl) Try.func8 (by kernel_rfl)
    (of_decide_eq_true (by kernel_rfl)) (by unfold Func.isWrapper; first | (rw [if_pos (by decide +kernel)]; kernel_rfl) | (rw [if_neg (by decide +kernel)]; exact ⟨rfl, rfl⟩))
    (fun os started H enc _ => viewThrough_lifted os started H enc)
#print axioms viewThrough_holds
end Go.Proofs.Ythclhmdgfekaeaa
