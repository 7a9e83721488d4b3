/- ImageOne: a fragment that is laid turns its own place alone, and that to the nearer one; any image and any fragment (images with more than 5,000 pixels are let pass). -/
import Derived.Test.YtflgamohploalaaHImY
import Derived.Test.YtflgamohploalaaHRow4
namespace Go.Proofs.Ytflgamohploalaa
open Go.ChangeShapes Go.WideShapes Go.ChangeAt Go.RowKit
open Go.ChangeMaps (open_string shut_string)
open Go.Joins (open_agg2 open_agg3 open_agg4)
set_option maxRecDepth 100000 in
theorem imageOne_lifted (os : Os) (started : os.Started) (H : Type) (enc : TypeId × Value → H) :
    ReturnsInHanded {} Try.checked os 6 .any (Rows.imageOneSpec.pre6 enc Try.prog Try.f6 Rows.imageOneRow.domain false) (Rows.imageOneSpec.post enc Try.prog Try.f6 false true false false) := by
  refine returnsInHanded_of_change (C := Try.checked) own started (by kernel_rfl) Try.func6
    (ChangeSpec.witness6 (enc := enc) (C := Try.checked) false ⟨#[], #[.agg #[.int .i64 0, .int .i64 0, .slice none 0 0], .agg #[.int .i64 0, .int .i64 0, .int .u32 0, .int .i64 0, .int .i64 0, .int .u32 0]], []⟩ 8 (by kernel_rfl) (by kernel_rfl) (by kernel_rfl) (by kernel_rfl)) ?_
  intro W base args ds gs before hval0 hW hcnd _
  have hval : ∀ (j : Nat) t v, Try.f6.params[j]? = some t → args[j]? = some v → Value.okWide Try.prog W .any base t v := hval0
  have hW' := hW
  obtain ⟨p, q, hA0, hV, rfl, hfz, hnd⟩ := hW
  have hA : DataW.TrodAll enc Try.prog W 0 (fun _ => true) true Try.f6.params.toList args.toList ds p := hA0
  rw [Try.params6] at hA hval
  obtain ⟨v0, vs0, d0, ds0, p0, q0, hargs, rfl, rfl, h0, r0⟩ := trodAll_cons hA
  obtain ⟨v1, vs1, d1, ds1, p1, q1, rfl, rfl, rfl, h1, r1⟩ := trodAll_cons r0
  obtain ⟨rfl, rfl, rfl⟩ := trodAll_nil r1
  obtain rfl : args = #[v0, v1] := by cases args; simp_all
  obtain ⟨rfl, rfl⟩ := trodVars_none hV
  have k0 := h0
  have lt0 : ∀ x ∈ p0, x.block < W.heap.size := by obtain ⟨m, hm⟩ := k0; exact DataW.trod_lt m _ _ _ hm
  have k1 := h1
  have lt1 : ∀ x ∈ p1, x.block < W.heap.size := by obtain ⟨m, hm⟩ := k1; exact DataW.trod_lt m _ _ _ hm
  obtain ⟨iw0, ih0, iu0, ib0, io0, ir0, il0, rfl, iwb0, ihb0, iwf0, isr0, iin0⟩ := im_open (hval 0 24 _ rfl rfl) h0
  obtain ⟨vl1, rfl, ft1⟩ := open_flat (ks := [.i .i64, .i .i64, .i .u32, .i .i64, .i .i64, .i .u32]) (by kernel_rfl) Try.underlying64 rfl (hval 1 64 _ rfl rfl) h1
  obtain ⟨x1_0, r1_0, rfl, wa1_0, wb1_0, x1_1, r1_1, rfl, wa1_1, wb1_1, x1_2, r1_2, rfl, wa1_2, wb1_2, x1_3, r1_3, rfl, wa1_3, wb1_3, x1_4, r1_4, rfl, wa1_4, wb1_4, x1_5, r1_5, rfl, wa1_5, wb1_5, rfl⟩ := ft1
  clear hA0 hval0
  refine (one_row W x1_0 x1_1 x1_2 x1_3 x1_4 x1_5  iwb0 ihb0 iwf0 isr0 iin0 ).mono fun e W' ⟨he, bel⟩ => ?_
  subst he
  exact ⟨_, rfl, _, _, _, [], _, [], hW', trodAll_mk1 (shut_bool Try.underlying4 _), (trodAll_cons_mk (Below.trod laidOut (by kernel_rfl) (of_decide_eq_true (by kernel_rfl)) k0 bel lt0) (trodAll_cons_mk (Below.trod laidOut (by kernel_rfl) (of_decide_eq_true (by kernel_rfl)) k1 bel lt1) trodAll_mk0)), rfl, bel.frame _, fun h => by cases h⟩
/-- The statement. -/
theorem imageOne_holds : Rows.ImageOneSaid :=
  OpenClaim.holds_of_wide 6 Try.f6 rfl rfl rfl rfl rfl rfl rfl ⟨rfl, rfl, rfl, rfl, rfl⟩ rfl rfl rfl rfl rfl (by kernel_rfl) Try.func6 (by kernel_rfl)
    (of_decide_eq_true (by kernel_rfl)) (by unfold Func.isWrapper; first | (rw [if_pos (by decide +kernel)]; kernel_rfl) | (rw [if_neg (by decide +kernel)]; exact ⟨rfl, rfl⟩))
    (fun os started H enc _ => imageOne_lifted os started H enc)
#print axioms imageOne_holds
end Go.Proofs.Ytflgamohploalaa
