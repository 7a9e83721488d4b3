/- RleOver: a span's bytes laid over another one are the one over the other; over itself they are the span; in which order bytes are laid makes no difference; any three spans (4,200 pixels). -/
import Derived.Test.YtnmkpekfkfckoaaHRmO
import Derived.Test.YtnmkpekfkfckoaaHRow5
namespace Go.Proofs.Ytnmkpekfkfckoaa
open Go.ChangeShapes Go.WideShapes Go.ChangeAt Go.RowKit
open Go.ChangeMaps (open_string shut_string)
open Go.Joins (open_agg2 open_agg3 open_agg4)
set_option maxRecDepth 100000 in
theorem rleOver_lifted (os : Os) (started : os.Started) (H : Type) (enc : TypeId × Value → H) :
    ReturnsInHanded {} Try.checked os 7 .any (Rows.rleOverSpec.pre6 enc Try.prog Try.f7 Rows.rleOverRow.domain false) (Rows.rleOverSpec.post enc Try.prog Try.f7 false true false false) := by
  refine returnsInHanded_of_change (C := Try.checked) own started (by kernel_rfl) Try.func7
    (ChangeSpec.witness6 (enc := enc) (C := Try.checked) false ⟨#[], #[.slice none 0 0, .slice none 0 0, .slice none 0 0], []⟩ 8 (by kernel_rfl) (by kernel_rfl) (by kernel_rfl) (by kernel_rfl)) ?_
  intro W base args ds gs before hval0 hW hcnd _
  have hval : ∀ (j : Nat) t v, Try.f7.params[j]? = some t → args[j]? = some v → Value.okWide Try.prog W .any base t v := hval0
  have hW' := hW
  obtain ⟨p, q, hA0, hV, rfl, hfz, hnd⟩ := hW
  have hA : DataW.TrodAll enc Try.prog W 0 (fun _ => true) true Try.f7.params.toList args.toList ds p := hA0
  rw [Try.params7] at hA hval
  obtain ⟨v0, vs0, d0, ds0, p0, q0, hargs, rfl, rfl, h0, r0⟩ := trodAll_cons hA
  obtain ⟨v1, vs1, d1, ds1, p1, q1, rfl, rfl, rfl, h1, r1⟩ := trodAll_cons r0
  obtain ⟨v2, vs2, d2, ds2, p2, q2, rfl, rfl, rfl, h2, r2⟩ := trodAll_cons r1
  obtain ⟨rfl, rfl, rfl⟩ := trodAll_nil r2
  obtain rfl : args = #[v0, v1, v2] := by cases args; simp_all
  obtain ⟨rfl, rfl⟩ := trodVars_none hV
  have k0 := h0
  have lt0 : ∀ x ∈ p0, x.block < W.heap.size := by obtain ⟨m, hm⟩ := k0; exact DataW.trod_lt m _ _ _ hm
  have k1 := h1
  have lt1 : ∀ x ∈ p1, x.block < W.heap.size := by obtain ⟨m, hm⟩ := k1; exact DataW.trod_lt m _ _ _ hm
  have k2 := h2
  have lt2 : ∀ x ∈ p2, x.block < W.heap.size := by obtain ⟨m, hm⟩ := k2; exact DataW.trod_lt m _ _ _ hm
  obtain ⟨b0, o0, len0, room0, rows0, hl0, ft0, sr0, hv0⟩ := open_rowsG (ks := [.i .u32, .i .i64, .i .i64, .i .u32]) Try.underlying22 (by kernel_rfl) (by kernel_rfl) (by decide) (hval 0 22 _ rfl rfl) h0
  obtain ⟨b1, o1, len1, room1, rows1, hl1, ft1, sr1, hv1⟩ := open_rowsG (ks := [.i .u32, .i .i64, .i .i64, .i .u32]) Try.underlying22 (by kernel_rfl) (by kernel_rfl) (by decide) (hval 1 22 _ rfl rfl) h1
  obtain ⟨b2, o2, len2, room2, rows2, hl2, ft2, sr2, hv2⟩ := open_rowsG (ks := [.i .u32, .i .i64, .i .i64, .i .u32]) Try.underlying22 (by kernel_rfl) (by kernel_rfl) (by decide) (hval 2 22 _ rfl rfl) h2
  clear hA0 hval0
  refine (rover_row W  hl0 ft0 sr0 hv0 hl1 ft1 sr1 hv1 hl2 ft2 sr2 hv2  ).mono fun e W' ⟨he, bel⟩ => ?_
  subst he
  exact ⟨_, rfl, _, _, _, [], _, [], hW', trodAll_mk1 (shut_bool Try.underlying4 _), (trodAll_cons_mk (Below.trod laidOut (by kernel_rfl) (of_decide_eq_true (by kernel_rfl)) k0 bel lt0) (trodAll_cons_mk (Below.trod laidOut (by kernel_rfl) (of_decide_eq_true (by kernel_rfl)) k1 bel lt1) (trodAll_cons_mk (Below.trod laidOut (by kernel_rfl) (of_decide_eq_true (by kernel_rfl)) k2 bel lt2) trodAll_mk0))), rfl, bel.frame _, fun h => by cases h⟩
/-- The statement. -/
theorem rleOver_holds : Rows.RleOverSaid :=
  OpenClaim.holds_of_wide 7 Try.f7 rfl rfl rfl rfl rfl rfl rfl ⟨rfl, rfl, rfl, rfl, rfl⟩ rfl rfl rfl rfl rfl (by kernel_rfl) Try.func7 (by kernel_rfl)
    (of_decide_eq_true (by kernel_rfl)) (by unfold Func.isWrapper; first | (rw [if_pos (by decide +kernel)]; kernel_rfl) | (rw [if_neg (by decide +kernel)]; exact ⟨rfl, rfl⟩))
    (fun os started H enc _ => rleOver_lifted os started H enc)
#print axioms rleOver_holds
end Go.Proofs.Ytnmkpekfkfckoaa
