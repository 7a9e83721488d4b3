/- Walking over named blocks with values that are not known: one short rule for each operation. No program in sight. Walking over named blocks: calls of plain values, loops by families of states, where a function begins and ends. No program in sight. -/
import Derived.Test.YtnmkpekfkfckoaaHZB
import Derived.Test.YtnmkpekfkfckoaaHZC
import Derived.LoopNIn
namespace Go.Proofs.Ytnmkpekfkfckoaa.EW
set_option linter.unusedSectionVars false
set_option linter.unusedSimpArgs false
set_option linter.unusedVariables false
open Go.RowKit EV
open SX (Wr Tv Qu Rm Sh Is eqs conjP eqs_iff eqs_false)
theorem aCV {p : Prop} (h : p := by (first | (apply CV.v; rfl) | (apply CV.n; (focus rfl); (focus rfl)) | apply CV.a | (apply CV.f; intro q hq; simp only [List.mem_cons, List.not_mem_nil, or_false] at hq; subst hq; exact ⟨rfl, List.mem_singleton.2 rfl⟩))) : p := h
theorem aGOK {p : Prop} (h : p := by (first | apply GOk.none | (apply GOk.some; (· rfl); (· rfl); (· (first | with_reducible rfl | with_reducible assumption))))) : p := h
theorem aWR {p : Prop} (h : p := by (first | (apply Wr.lit; (focus (simp only [Int.reduceAdd, Int.reduceSub, Int.reduceMul, Int.reduceNeg]; rfl)); (focus (first | (apply Wr.i64; omega) | (apply Wr.u64; omega) | (apply Wr.i32; omega) | (apply Wr.u32; omega) | (apply Wr.u8; omega)))) | (apply Wr.i64; omega) | (apply Wr.u64; omega) | (apply Wr.i32; omega) | (apply Wr.u32; omega) | (apply Wr.u8; omega) | apply Wr.u64m | apply Wr.u32m | apply Wr.u8m | apply Wr.u16m | apply Wr.raw)) : p := h
theorem aQU {p : Prop} (h : p := by (first | (apply Qu.i64; omega) | (apply Qu.u64; omega) | apply Qu.raw)) : p := h
theorem aRM {p : Prop} (h : p := by (first | (apply Rm.pos; omega) | apply Rm.raw)) : p := h
theorem aBT {p : Prop} (h : p := by ((apply Bt.raw; rfl))) : p := h
theorem aSH {p : Prop} (h : p := by ((apply Sh.mk; simp only [IntKind.bits, Int.reduceToNat, Nat.reduceLeDiff, Nat.min_def, if_true, if_false, ↓reduceIte, Int.reducePow]; rfl))) : p := h
theorem aTV {p : Prop} (h : p := by (first | (apply Tv.yes; omega) | (apply Tv.no; omega) | (apply Tv.eqy; omega) | (apply Tv.eqn; omega) | (apply Tv.ney; omega) | (apply Tv.nen; omega) | (apply Tv.mk; with_reducible assumption) | apply Tv.raw)) : p := h
theorem aTB {p : Prop} (h : p := by (first | (apply Tv.mk; with_reducible assumption) | apply Tv.b1 | apply Tv.b2 | apply Tv.b3 | apply Tv.b4 | apply Tv.c1 | apply Tv.c2 | apply Tv.c3 | apply Tv.c4 | apply Tv.nt | apply Tv.nf | apply Tv.d1 | apply Tv.d2 | apply Tv.d3 | apply Tv.d4 | apply Tv.e1 | apply Tv.e2 | apply Tv.e3 | apply Tv.e4 | apply Tv.raw)) : p := h
theorem aTS {p : Prop} (h : p := by (first | with_reducible exact EW.tvS | with_reducible exact EW.tvSn | with_reducible exact EW.tvN rfl | with_reducible exact EW.tvNn rfl | (apply Tv.eqsY; first | (simp [conjP]; (first | done | fail)) | (simp only [conjP]; omega)) | (apply Tv.eqsN; simp only [conjP]; omega) | (apply Tv.neqsN; first | (simp [conjP]; (first | done | fail)) | (simp only [conjP]; omega)) | (apply Tv.neqsY; simp only [conjP]; omega) | (apply Tv.mk; with_reducible assumption) | apply Tv.raw)) : p := h
theorem aTSTR {p : Prop} (h : p := by (first | (apply Tv.mk; rfl) | apply Tv.raw)) : p := h
theorem aGET {p : Prop} (h : p := by (first | exact EW.GetC.get (by first | exact True.intro | omega) | rfl | exact EW.Elems.get (by omega) | with_reducible assumption | (simp only [List.getElem?_cons_succ, List.getElem?_cons_zero]; with_reducible assumption))) : p := h
theorem aLEN {p : Prop} (h : p := by (first | exact Nat.le_of_ble_eq_true rfl | rfl | omega | exact EW.lenLe (by omega) | exact EW.lenEq (by omega) | (rw [EW.RowL.len]; omega) | (rw [EW.Elems.len]; omega) | (simp only [EW.nums_len, List.length_cons, List.length_nil, List.length_append, List.length_map, List.length_set, List.length_replicate, List.length_take, List.length_drop, List.length_range, EV.putL_length, Nat.reduceAdd, Nat.reduceMul, Nat.reduceSub]; (first | done | fail)) | (simp only [EW.nums_len, List.length_cons, List.length_nil, List.length_append, List.length_map, List.length_set, List.length_replicate, List.length_take, List.length_drop, List.length_range, EV.putL_length, Nat.reduceAdd, Nat.reduceMul, Nat.reduceSub]; omega) | (simp only [EW.nums_len, List.length_cons, List.length_nil, List.length_append, List.length_map, List.length_set, List.length_replicate, List.length_take, List.length_drop, List.length_range, EV.putL_length, Nat.reduceAdd, Nat.reduceMul, Nat.reduceSub] at *; omega))) : p := h
theorem aCUT {p : Prop} (h : p := by (first | exact EW.CutW.is (by first | exact True.intro | omega) | exact EW.CutC.is | exact EW.RowL.cut (by omega) | exact EW.RowL.cut0 (by omega) | exact EW.RowL.cutA (by omega) | (apply Is.mk; first | (simp only [EW.ctl, EW.ctlI, EW.ctlB, List.map_cons, List.map_nil, EV.putL, EV.put0, List.drop_succ_cons, List.drop_zero, List.drop_nil, List.take_succ_cons, List.take_zero, List.take_nil, List.nil_append, List.cons_append, List.append_nil, EV.timesL, EW.argW, Nat.reduceAdd, Nat.reduceMul, Nat.reduceSub, Nat.zero_add, Nat.zero_mul, Nat.mul_one, Nat.one_mul, Nat.add_zero]; rfl) | rfl))) : p := h
theorem aPUT {p : Prop} (h : p := by ((first | exact EW.putSame (by first | rfl | omega) | exact EW.PutA.is (by first | exact True.intro | omega) | (apply Is.mk; first | (simp only [EW.ctl, EW.ctlI, EW.ctlB, List.map_cons, List.map_nil, EV.putL, EV.put0, List.drop_succ_cons, List.drop_zero, List.drop_nil, List.take_succ_cons, List.take_zero, List.take_nil, List.nil_append, List.cons_append, List.append_nil, EV.timesL, EW.argW, Nat.reduceAdd, Nat.reduceMul, Nat.reduceSub, Nat.zero_add, Nat.zero_mul, Nat.mul_one, Nat.one_mul, Nat.add_zero]; rfl) | rfl)))) : p := h
theorem aPUTW {p : Prop} (h : p := by ((first | exact EW.putSame (by first | rfl | omega) | exact EW.PutA.is (by first | exact True.intro | omega) | (apply Is.mk; first | (simp only [EW.ctl, EW.ctlI, EW.ctlB, List.map_cons, List.map_nil, EV.putL, EV.put0, List.drop_succ_cons, List.drop_zero, List.drop_nil, List.take_succ_cons, List.take_zero, List.take_nil, List.nil_append, List.cons_append, List.append_nil, EV.timesL, EW.argW, Nat.reduceAdd, Nat.reduceMul, Nat.reduceSub, Nat.zero_add, Nat.zero_mul, Nat.mul_one, Nat.one_mul, Nat.add_zero]; rfl) | rfl)))) : p := h
theorem aNRM {p : Prop} (h : p := by ((apply Is.mk; first | (simp only [EW.ctl, EW.ctlI, EW.ctlB, List.map_cons, List.map_nil, EV.putL, EV.put0, List.drop_succ_cons, List.drop_zero, List.drop_nil, List.take_succ_cons, List.take_zero, List.take_nil, List.nil_append, List.cons_append, List.append_nil, EV.timesL, EW.argW, Nat.reduceAdd, Nat.reduceMul, Nat.reduceSub, Nat.zero_add, Nat.zero_mul, Nat.mul_one, Nat.one_mul, Nat.add_zero]; rfl) | rfl))) : p := h
theorem aTIMES {p : Prop} (h : p := by ((apply Is.mk; first | (simp only [EW.ctl, EW.ctlI, EW.ctlB, List.map_cons, List.map_nil, EV.putL, EV.put0, List.drop_succ_cons, List.drop_zero, List.drop_nil, List.take_succ_cons, List.take_zero, List.take_nil, List.nil_append, List.cons_append, List.append_nil, EV.timesL, EW.argW, Nat.reduceAdd, Nat.reduceMul, Nat.reduceSub, Nat.zero_add, Nat.zero_mul, Nat.mul_one, Nat.one_mul, Nat.add_zero]; rfl) | rfl))) : p := h
theorem aOFF {p : Prop} (h : p := by ((apply Is.mk; first | (simp only [List.getElem_toArray, List.getElem_cons_succ, List.getElem_cons_zero, Int.toNat_natCast, EW.tn_add, EW.tn_addL, EW.tn_subL, Int.reduceToNat, Int.toNat_zero, Int.toNat_one, Nat.reduceAdd, Nat.reduceMul, Nat.reduceSub, Nat.zero_add, Nat.zero_mul, Nat.mul_one, Nat.one_mul, Nat.add_zero, Nat.sub_zero, Nat.sub_self, Nat.reduceLeDiff, Nat.max_self]; rfl) | rfl))) : p := h
theorem aBND {p : Prop} (h : p := by (first | omega | (simp only [EW.nums_len, List.length_cons, List.length_nil, List.length_append, List.length_map, List.length_set, List.length_replicate, List.length_take, List.length_drop, List.length_range, EV.putL_length, Nat.reduceAdd, Nat.reduceMul, Nat.reduceSub]; omega) | (simp only [EW.nums_len, List.length_cons, List.length_nil, List.length_append, List.length_map, List.length_set, List.length_replicate, List.length_take, List.length_drop, List.length_range, EV.putL_length, Nat.reduceAdd, Nat.reduceMul, Nat.reduceSub] at *; omega))) : p := h
theorem aNE {p : Prop} (h : p := by (first | omega | exact EW.lenNe (by omega) | (intro h; cases h; (first | done | fail)) | simp)) : p := h
theorem aCAPS {p : Prop} (h : p := by (((repeat (first | apply Caps.nil | (apply Caps.cons; (focus rfl); (focus rfl)))); (first | done | fail)))) : p := h
theorem aOPT {p : Prop} (h : p := by (first | apply OptI.no | (apply OptI.yes; rfl))) : p := h
theorem aBDS {p : Prop} (h : p := by ((refine ⟨?_, ?_, ?_⟩ <;> first | rfl | (refine ⟨?_, ?_, rfl⟩ <;> omega)))) : p := h
theorem aPARTS {p : Prop} (h : p := by (((repeat (first | apply Parts.nil | (apply Parts.cons; (focus rfl); (focus (first | (apply CV.v; rfl) | (apply CV.n; (focus rfl); (focus rfl)) | apply CV.a | (apply CV.f; intro q hq; simp only [List.mem_cons, List.not_mem_nil, or_false] at hq; subst hq; exact ⟨rfl, List.mem_singleton.2 rfl⟩)))))); (first | done | fail)))) : p := h
theorem aFILL {p : Prop} (h : p := by (rfl)) : p := h
theorem aSRC {p : Prop} (h : p := by (first | exact src_s (by rfl) (by rfl) (by rfl) (by rfl) (by (first | exact Nat.le_of_ble_eq_true rfl | rfl | omega | exact EW.lenLe (by omega) | exact EW.lenEq (by omega) | (rw [EW.RowL.len]; omega) | (rw [EW.Elems.len]; omega) | (simp only [EW.nums_len, List.length_cons, List.length_nil, List.length_append, List.length_map, List.length_set, List.length_replicate, List.length_take, List.length_drop, List.length_range, EV.putL_length, Nat.reduceAdd, Nat.reduceMul, Nat.reduceSub]; (first | done | fail)) | (simp only [EW.nums_len, List.length_cons, List.length_nil, List.length_append, List.length_map, List.length_set, List.length_replicate, List.length_take, List.length_drop, List.length_range, EV.putL_length, Nat.reduceAdd, Nat.reduceMul, Nat.reduceSub]; omega) | (simp only [EW.nums_len, List.length_cons, List.length_nil, List.length_append, List.length_map, List.length_set, List.length_replicate, List.length_take, List.length_drop, List.length_range, EV.putL_length, Nat.reduceAdd, Nat.reduceMul, Nat.reduceSub] at *; omega))) | exact src_g (by rfl) (by rfl) (by rfl) (by rfl) (by (first | exact Nat.le_of_ble_eq_true rfl | rfl | omega | exact EW.lenLe (by omega) | exact EW.lenEq (by omega) | (rw [EW.RowL.len]; omega) | (rw [EW.Elems.len]; omega) | (simp only [EW.nums_len, List.length_cons, List.length_nil, List.length_append, List.length_map, List.length_set, List.length_replicate, List.length_take, List.length_drop, List.length_range, EV.putL_length, Nat.reduceAdd, Nat.reduceMul, Nat.reduceSub]; (first | done | fail)) | (simp only [EW.nums_len, List.length_cons, List.length_nil, List.length_append, List.length_map, List.length_set, List.length_replicate, List.length_take, List.length_drop, List.length_range, EV.putL_length, Nat.reduceAdd, Nat.reduceMul, Nat.reduceSub]; omega) | (simp only [EW.nums_len, List.length_cons, List.length_nil, List.length_append, List.length_map, List.length_set, List.length_replicate, List.length_take, List.length_drop, List.length_range, EV.putL_length, Nat.reduceAdd, Nat.reduceMul, Nat.reduceSub] at *; omega))) | exact src_nil (by rfl) | exact src_str (by rfl))) : p := h
theorem aAPPT {p : Prop} (h : p := by (exact ⟨by rfl, by (first | exact .inr ⟨_, rfl⟩ | exact .inl rfl), by rfl, by rfl, by rfl, by rfl, EW.fitOf (by rfl) (by (first | exact Nat.le_of_ble_eq_true rfl | rfl | omega | exact EW.lenLe (by omega) | exact EW.lenEq (by omega) | (rw [EW.RowL.len]; omega) | (rw [EW.Elems.len]; omega) | (simp only [EW.nums_len, List.length_cons, List.length_nil, List.length_append, List.length_map, List.length_set, List.length_replicate, List.length_take, List.length_drop, List.length_range, EV.putL_length, Nat.reduceAdd, Nat.reduceMul, Nat.reduceSub]; (first | done | fail)) | (simp only [EW.nums_len, List.length_cons, List.length_nil, List.length_append, List.length_map, List.length_set, List.length_replicate, List.length_take, List.length_drop, List.length_range, EV.putL_length, Nat.reduceAdd, Nat.reduceMul, Nat.reduceSub]; omega) | (simp only [EW.nums_len, List.length_cons, List.length_nil, List.length_append, List.length_map, List.length_set, List.length_replicate, List.length_take, List.length_drop, List.length_range, EV.putL_length, Nat.reduceAdd, Nat.reduceMul, Nat.reduceSub] at *; omega)))⟩)) : p := h
theorem aSRCN {p : Prop} (h : p := by (first | exact srcN_named (by rfl) (.inl ⟨_, rfl⟩) (by rfl) (by rfl) (by rfl) (by (first | exact Nat.le_of_ble_eq_true rfl | rfl | omega | exact EW.lenLe (by omega) | exact EW.lenEq (by omega) | (rw [EW.RowL.len]; omega) | (rw [EW.Elems.len]; omega) | (simp only [EW.nums_len, List.length_cons, List.length_nil, List.length_append, List.length_map, List.length_set, List.length_replicate, List.length_take, List.length_drop, List.length_range, EV.putL_length, Nat.reduceAdd, Nat.reduceMul, Nat.reduceSub]; (first | done | fail)) | (simp only [EW.nums_len, List.length_cons, List.length_nil, List.length_append, List.length_map, List.length_set, List.length_replicate, List.length_take, List.length_drop, List.length_range, EV.putL_length, Nat.reduceAdd, Nat.reduceMul, Nat.reduceSub]; omega) | (simp only [EW.nums_len, List.length_cons, List.length_nil, List.length_append, List.length_map, List.length_set, List.length_replicate, List.length_take, List.length_drop, List.length_range, EV.putL_length, Nat.reduceAdd, Nat.reduceMul, Nat.reduceSub] at *; omega))) (by (first | exact Nat.le_of_ble_eq_true rfl | rfl | omega | exact EW.lenLe (by omega) | exact EW.lenEq (by omega) | (rw [EW.RowL.len]; omega) | (rw [EW.Elems.len]; omega) | (simp only [EW.nums_len, List.length_cons, List.length_nil, List.length_append, List.length_map, List.length_set, List.length_replicate, List.length_take, List.length_drop, List.length_range, EV.putL_length, Nat.reduceAdd, Nat.reduceMul, Nat.reduceSub]; (first | done | fail)) | (simp only [EW.nums_len, List.length_cons, List.length_nil, List.length_append, List.length_map, List.length_set, List.length_replicate, List.length_take, List.length_drop, List.length_range, EV.putL_length, Nat.reduceAdd, Nat.reduceMul, Nat.reduceSub]; omega) | (simp only [EW.nums_len, List.length_cons, List.length_nil, List.length_append, List.length_map, List.length_set, List.length_replicate, List.length_take, List.length_drop, List.length_range, EV.putL_length, Nat.reduceAdd, Nat.reduceMul, Nat.reduceSub] at *; omega))) | exact srcN_named (by rfl) (.inr ⟨_, _, rfl⟩) (by rfl) (by rfl) (by rfl) (by (first | exact Nat.le_of_ble_eq_true rfl | rfl | omega | exact EW.lenLe (by omega) | exact EW.lenEq (by omega) | (rw [EW.RowL.len]; omega) | (rw [EW.Elems.len]; omega) | (simp only [EW.nums_len, List.length_cons, List.length_nil, List.length_append, List.length_map, List.length_set, List.length_replicate, List.length_take, List.length_drop, List.length_range, EV.putL_length, Nat.reduceAdd, Nat.reduceMul, Nat.reduceSub]; (first | done | fail)) | (simp only [EW.nums_len, List.length_cons, List.length_nil, List.length_append, List.length_map, List.length_set, List.length_replicate, List.length_take, List.length_drop, List.length_range, EV.putL_length, Nat.reduceAdd, Nat.reduceMul, Nat.reduceSub]; omega) | (simp only [EW.nums_len, List.length_cons, List.length_nil, List.length_append, List.length_map, List.length_set, List.length_replicate, List.length_take, List.length_drop, List.length_range, EV.putL_length, Nat.reduceAdd, Nat.reduceMul, Nat.reduceSub] at *; omega))) (by (first | exact Nat.le_of_ble_eq_true rfl | rfl | omega | exact EW.lenLe (by omega) | exact EW.lenEq (by omega) | (rw [EW.RowL.len]; omega) | (rw [EW.Elems.len]; omega) | (simp only [EW.nums_len, List.length_cons, List.length_nil, List.length_append, List.length_map, List.length_set, List.length_replicate, List.length_take, List.length_drop, List.length_range, EV.putL_length, Nat.reduceAdd, Nat.reduceMul, Nat.reduceSub]; (first | done | fail)) | (simp only [EW.nums_len, List.length_cons, List.length_nil, List.length_append, List.length_map, List.length_set, List.length_replicate, List.length_take, List.length_drop, List.length_range, EV.putL_length, Nat.reduceAdd, Nat.reduceMul, Nat.reduceSub]; omega) | (simp only [EW.nums_len, List.length_cons, List.length_nil, List.length_append, List.length_map, List.length_set, List.length_replicate, List.length_take, List.length_drop, List.length_range, EV.putL_length, Nat.reduceAdd, Nat.reduceMul, Nat.reduceSub] at *; omega))) | exact srcN_nil (by rfl))) : p := h
theorem aBYTES {p : Prop} (h : p := by (rfl)) : p := h
theorem aTRU {p : Prop} (h : p := by (first | with_reducible rfl | with_reducible assumption)) : p := h
theorem aVALS {p : Prop} (h : p := by ((repeat (first | apply Vals.nil | (apply Vals.cons; (· rfl)))); done)) : p := h
theorem aLFV {p : Prop} (h : p := by (((repeat (first | exact LfV.nil | apply LfV.cons)); (first | done | fail)))) : p := h
theorem aMM {p : Prop} (h : p := by (first | (apply Mm.min2l; omega) | (apply Mm.min2r; omega) | (apply Mm.max2l; omega) | (apply Mm.max2r; omega) | (apply Mm.raw; rfl))) : p := h
theorem aOPN {p : Prop} (h : p := by (((fail_if_success (with_reducible show EW.Opn true)); (fail_if_success (with_reducible show EW.Opn false)); (fail_if_success (exact EW.Opn.kt (by with_reducible assumption))); (fail_if_success (exact EW.Opn.kf (by with_reducible assumption))); apply EW.Opn.mk))) : p := h
theorem aPLL {p : Prop} (h : p := by (first | with_reducible exact EW.plainMap _ | rfl)) : p := h
theorem aEQK {p : Prop} (h : p := by (first | (with_reducible apply EW.eqOk_nums; kernel_rfl) | (with_reducible apply EW.eqOk_numsL; kernel_rfl) | (with_reducible apply EW.eqOk_numsR; kernel_rfl) | kernel_rfl)) : p := h
theorem aPLVS {p : Prop} (h : p := by (((repeat (first | apply PlVs.nil | (apply PlVs.cons; (focus (first | (with_reducible exact PlV.a (PlL.map _)) | exact PlV.a (EW.PlL.all (by rfl)) | (apply PlV.a; ((repeat (first | exact PlL.nil | apply PlL.cons)); (first | done | fail))) | (apply PlV.t; ((repeat (first | exact PlT.nil | (apply PlT.row; (focus (first | (with_reducible exact PlL.map _) | exact EW.PlL.all (by rfl) | ((repeat (first | exact PlL.nil | apply PlL.cons)); (first | done | fail))))) | apply PlT.one)); (first | done | fail))) | exact PlV.c))))); (first | done | fail)))) : p := h
theorem aPLV {p : Prop} (h : p := by (first | (with_reducible exact PlV.a (PlL.map _)) | exact PlV.a (EW.PlL.all (by rfl)) | (apply PlV.a; ((repeat (first | exact PlL.nil | apply PlL.cons)); (first | done | fail))) | (apply PlV.t; ((repeat (first | exact PlT.nil | (apply PlT.row; (focus (first | (with_reducible exact PlL.map _) | exact EW.PlL.all (by rfl) | ((repeat (first | exact PlL.nil | apply PlL.cons)); (first | done | fail))))) | apply PlT.one)); (first | done | fail))) | exact PlV.c)) : p := h
theorem aONE {p : Prop} (h : p := by (first | rfl | (simp only [EW.oneV, EW.all_nums, List.all_cons, List.all_nil, Bool.and_true, Bool.true_and, Bool.and_self]; (first | done | rfl)))) : p := h
theorem aPLX {p : Prop} (h : p := by (first | (with_reducible exact PlL.map _) | ((repeat (first | exact PlL.nil | apply PlL.cons)); (first | done | fail)) | exact PlL.map _ | exact EW.PlL.take (EW.PlL.drop (PlL.map _) _) _ | exact EW.PlL.take (PlL.map _) _)) : p := h
theorem aLENV {p : Prop} (h : p := by (first | exact Nat.le_of_ble_eq_true rfl | rfl | omega | exact EW.lenLe (by omega) | (rw [EW.RowV.len]; done) | (rw [EW.RowV.len]; omega) | (rw [EW.ElemV.len]; omega) | (simp only [EW.nums_len, List.length_cons, List.length_nil, List.length_append, List.length_map, List.length_set, List.length_replicate, List.length_take, List.length_drop, List.length_range, EV.putL_length, Nat.reduceAdd, Nat.reduceMul, Nat.reduceSub]; (first | done | fail)) | (simp only [EW.nums_len, List.length_cons, List.length_nil, List.length_append, List.length_map, List.length_set, List.length_replicate, List.length_take, List.length_drop, List.length_range, EV.putL_length, Nat.reduceAdd, Nat.reduceMul, Nat.reduceSub]; omega))) : p := h
theorem aJOINW {p : Prop} (h : p := by (first | exact EW.takeAll (by first | omega | (rw [EW.nums_len]; first | done | omega) | (rw [EW.RowV.len]; first | done | omega) | (rw [EW.ElemV.len]; first | done | omega)) | exact EW.joinAll (by first | omega | (rw [EW.RowV.len]; first | done | omega) | (rw [EW.ElemV.len]; first | done | omega) | (simp only [EW.nums_len, List.length_cons, List.length_nil, List.length_append, List.length_map, List.length_set, List.length_replicate, List.length_take, List.length_drop, List.length_range, EV.putL_length, Nat.reduceAdd, Nat.reduceMul, Nat.reduceSub]; omega)) | (apply Is.mk; first | (simp only [EW.ctl, EW.ctlI, EW.ctlB, List.map_cons, List.map_nil, EV.putL, EV.put0, List.drop_succ_cons, List.drop_zero, List.drop_nil, List.take_succ_cons, List.take_zero, List.take_nil, List.nil_append, List.cons_append, List.append_nil, EV.timesL, EW.argW, Nat.reduceAdd, Nat.reduceMul, Nat.reduceSub, Nat.zero_add, Nat.zero_mul, Nat.mul_one, Nat.one_mul, Nat.add_zero]; rfl) | rfl))) : p := h
theorem aFD {p : Prop} (h : p := by ((apply Is.mk; first | (rw [Int.fdiv_eq_ediv_of_nonneg _ (by omega)]) | rfl))) : p := h
theorem aKVE {p : Prop} (h : p := by (first | exact EW.kvI (by first | omega | (dsimp only; omega)) | exact EW.kvG (by first | omega | (simp only [EW.nums_len, List.length_cons, List.length_nil, List.length_append, List.length_map, List.length_set, List.length_replicate, List.length_take, List.length_drop, List.length_range, EV.putL_length, Nat.reduceAdd, Nat.reduceMul, Nat.reduceSub]; omega)) (by first | omega | (simp only [EW.nums_len, List.length_cons, List.length_nil, List.length_append, List.length_map, List.length_set, List.length_replicate, List.length_take, List.length_drop, List.length_range, EV.putL_length, Nat.reduceAdd, Nat.reduceMul, Nat.reduceSub]; omega)) | exact EW.kvB (by simp [*]) | exact EW.kvW (by (first | rfl | simp)) | rfl)) : p := h
theorem aFRM {p : Prop} (h : p := by (((repeat (first | with_reducible exact EW.Frm.refl | refine EW.Frm.upd ?_ rfl | refine EW.Frm.drp ?_ (by decide) rfl)); (first | done | fail)))) : p := h
theorem aFMT {p : Prop} (h : p := by ((first | (intro j n hn; cases hn; (first | done | fail)) | (intro n hn; cases hn; (first | done | fail)) | (intro j n hn; (repeat (first | (rcases List.mem_cons.1 hn with rfl | hn; (focus exact ⟨rfl, rfl⟩)) | (cases hn; (first | done | fail))))) | (intro n hn; (repeat (first | (rcases List.mem_cons.1 hn with rfl | hn; (focus exact ⟨rfl, rfl⟩)) | (cases hn; (first | done | fail)))))))) : p := h
theorem aCLD {p : Prop} (h : p := by ((first | exact EW.ClD.nl (by (((repeat (first | exact EW.NL.emp | (refine EW.NL.upd ?_ rfl) | refine EW.NL.drp ?_ | refine EW.NL.hp ?_ | refine EW.NL.argS ?_ | refine EW.NL.mix ?_)); (first | done | fail)))) | exact EW.ClD.nm (by ((repeat (first | exact EW.NM.emp | (refine EW.NM.upd ?_ rfl) | refine EW.NM.drp ?_)); (first | done | fail)))))) : p := h
theorem aNLT {p : Prop} (h : p := by (((repeat (first | exact EW.NL.emp | (refine EW.NL.upd ?_ rfl) | refine EW.NL.drp ?_ | refine EW.NL.hp ?_ | refine EW.NL.argS ?_ | refine EW.NL.mix ?_)); (first | done | fail)))) : p := h
theorem aSUBT {p : Prop} (h : p := by (((repeat (first | exact EW.subW.nil | refine EW.subW.cons rfl ?_)); (first | done | fail)))) : p := h
theorem aFMR {p : Prop} (h : p := by ((intro n hn; (repeat (first | (rcases List.mem_cons.1 hn with rfl | hn; (focus exact ⟨rfl, rfl, by decide⟩)) | (cases hn; (first | done | fail))))))) : p := h
theorem aNDP {p : Prop} (h : p := by (((repeat (first | exact List.nodup_nil | (refine List.nodup_cons.2 ⟨?_, ?_⟩; (focus (intro h; (repeat (first | (rcases List.mem_cons.1 h with h | h; (focus exact absurd h (by decide))) | (cases h; (first | done | fail))))))))); (first | done | fail)))) : p := h
theorem aATW {p : Prop} (h : p := by (((repeat (first | exact EW.atW.nil | refine EW.atW.lt rfl ?_ | refine EW.atW.b rfl ?_)); (first | done | fail)))) : p := h
theorem aGVR {p : Prop} (h : p := by ((intro n h1 h2 h3; simp only [EW.GV, List.length_cons, List.length_nil] at *; omega))) : p := h
theorem aGVN {p : Prop} (h : p := by (exact GV.no rfl rfl)) : p := h
theorem aREN {p : Prop} (h : p := by ((apply Is.mk; first | (simp only [EW.renW, EW.Kren, EW.KVren, EW.Bren, EW.Vren, EW.Cren, EW.Pren, EW.rn, List.map_cons, List.map_nil, List.getElem?_cons_zero, List.getElem?_cons_succ, List.getElem?_nil, List.length_cons, List.length_nil, Nat.reduceAdd, Nat.reduceSub]; rfl) | rfl))) : p := h
theorem fitOf {i : TypeInfo} {need : Nat} (hb : Nat.ble i.bytes 1000000 = true) (h : need ≤ 100000000) : need * i.bytes ≤ 140737488355328 ∧ need ≤ 140737488355328 := by
  have h1 := Nat.le_of_ble_eq_true hb
  have h2 := Nat.mul_le_mul h h1
  omega
def emp : Sf := fun _ => none
def GV (lo hi n : Nat) : Prop := n < lo ∨ hi ≤ n
theorem GV.no {lo hi n : Nat} (h1 : Nat.ble lo n = true) (h2 : Nat.blt n hi = true) : ¬ GV lo hi n := by
  have := Nat.le_of_ble_eq_true h1
  have h3 : n < hi := by simpa [Nat.blt_eq] using h2
  unfold GV; omega
theorem ctl (L : List Value) : (Value.agg L.toArray).cells.toList = L := rfl
theorem ctlI (k : IntKind) (n : Int) : (Value.int k n).cells.toList = [Value.int k n] := rfl
theorem ctlB (b : Bool) : (Value.bool b).cells.toList = [Value.bool b] := rfl
/-- A truth value that is no literal. -/
inductive Opn : Bool → Prop
  | mk {b : Bool} : Opn b
theorem Opn.kt {b : Bool} (_ : b = true) : Opn b := .mk
theorem Opn.kf {b : Bool} (_ : b = false) : Opn b := .mk
class Nm (p : Prop) (q : outParam Prop) : Prop where
  go : p → q
class Ng (p : Prop) (q : outParam Prop) : Prop where
  go : ¬ p → q
class Yes (b : Bool) (p : outParam Prop) : Prop where
  go : b = true → p
class No (b : Bool) (p : outParam Prop) : Prop where
  go : b = false → p
class Cj (l m : List Value) (p : outParam Prop) : Prop where
  go : conjP l m ↔ p
instance (priority := low) (p : Prop) : Nm p p := ⟨id⟩
instance (a b : Int) : Ng (a < b) (b ≤ a) := ⟨Int.not_lt.1⟩
instance (a b : Int) : Ng (a ≤ b) (b < a) := ⟨Int.not_le.1⟩
instance (priority := low) (b : Bool) : Yes b (b = true) := ⟨id⟩
instance (priority := low) (b : Bool) : No b (b = false) := ⟨id⟩
instance (p q : Prop) [d : Decidable p] [h : Nm p q] : Yes (decide p) q := ⟨fun x => h.go (of_decide_eq_true x)⟩
instance (p q : Prop) [d : Decidable p] [h : Ng p q] : No (decide p) q := ⟨fun x => h.go (of_decide_eq_false x)⟩
instance (b : Bool) (q : Prop) [h : No b q] : Yes (!b) q := ⟨fun x => h.go (by simpa using x)⟩
instance (b : Bool) (q : Prop) [h : Yes b q] : No (!b) q := ⟨fun x => h.go (by simpa using x)⟩
instance (a b : Int) : Yes (a == b) (a = b) := ⟨fun x => by simpa using x⟩
instance (a b : Int) : No (a == b) (¬ a = b) := ⟨fun x => by simpa using x⟩
instance (a b : Int) : Yes (a != b) (¬ a = b) := ⟨fun x => by simpa using x⟩
instance (a b : Int) : No (a != b) (a = b) := ⟨fun x => by simpa using x⟩
instance (k k' : IntKind) (a b : Int) : Cj [.int k a] [.int k' b] (a = b) := ⟨by simp [conjP]⟩
instance (priority := low) (k k' : IntKind) (a b : Int) (l m : List Value) (p : Prop) [h : Cj l m p] : Cj (.int k a :: l) (.int k' b :: m) (a = b ∧ p) := ⟨by simp only [conjP, h.go]⟩
instance (l m : List Value) (p : Prop) [h : Cj l m p] : Yes (eqs l m) p := ⟨fun x => h.go.1 ((eqs_iff l m).1 x)⟩
instance (l m : List Value) (p : Prop) [h : Cj l m p] : No (eqs l m) (¬ p) := ⟨fun x y => (eqs_false.1 x) (h.go.2 y)⟩
class GetC (l : List C) (o : Nat) (u : outParam C) (p : outParam Prop) : Prop where
  is : p → l[o]? = some u
class PutA {α : Type} (o : Nat) (us l : List α) (r : outParam (List α)) (p : outParam Prop) : Prop where
  put : p → putL o us l = r
theorem GetC.get {l : List C} {o : Nat} {u : C} {p : Prop} [h : GetC l o u p] (hp : p) : l[o]? = some u := h.is hp
theorem PutA.is {α : Type} {o : Nat} {us l r : List α} {p : Prop} [h : PutA o us l r p] (hp : p) : SX.Is (putL o us l) r := ⟨h.put hp⟩
theorem put0_all {α : Type} : ∀ {vs l : List α}, vs.length = l.length → put0 vs l = vs
  | [], [], _ => rfl
  | [], y :: l, h => by simp at h
  | x :: xs, [], h => by simp at h
  | x :: xs, y :: l, h => by rw [put0, put0_all (by simpa using h)]
theorem putAll {α : Type} {vs l : List α} (h : vs.length = l.length) : SX.Is (putL 0 vs l) vs := ⟨put0_all h⟩
/-- How long a list is. -/
class LenI {α : Type} (l : List α) (n : outParam Nat) : Prop where
  len : l.length = n
instance {α : Type} : LenI ([] : List α) 0 := ⟨rfl⟩
instance {α : Type} (x : α) (l : List α) (n : Nat) [h : LenI l n] : LenI (x :: l) (n + 1) := ⟨by rw [List.length_cons, h.len]⟩
instance {α β : Type} (f : α → β) (l : List α) (n : Nat) [h : LenI l n] : LenI (l.map f) n := ⟨by rw [List.length_map, h.len]⟩
instance (priority := low) {α : Type} (l : List α) : LenI l l.length := ⟨rfl⟩
theorem lenLe {α : Type} {l : List α} {a n : Nat} [h : LenI l n] (e : a ≤ n) : a ≤ l.length := by rw [h.len]; exact e
theorem lenNe {α : Type} {l : List α} {n : Nat} [h : LenI l n] (e : n ≠ 0) : l ≠ [] := fun h' => e (by rw [← h.len, h']; rfl)
theorem putSame {α : Type} {vs l : List α} {n m : Nat} [h : LenI vs n] [k : LenI l m] (e : n = m) : SX.Is (putL 0 vs l) vs := putAll (by rw [h.len, k.len, e])
theorem plainMap : ∀ (L : List Value), plainL (L.map C.v) = some L
  | [] => rfl
  | x :: L => by simp [plainL, plainMap L]
/-- Numbers of a kind. -/
def nums (k : IntKind) (l : List Int) : List Value := l.map (.int k)
theorem nums_len (k : IntKind) (l : List Int) : (nums k l).length = l.length := List.length_map _
instance (k : IntKind) (l : List Int) (n : Nat) [h : LenI l n] : LenI (nums k l) n := ⟨by rw [nums_len, h.len]⟩
instance (k : IntKind) (l : List Int) (j n : Nat) [hn : LenI l n] : GetC ((nums k l).map C.v) j (.v (.int k (l.getD j 0))) (j < n) := ⟨fun h => by
  rw [← hn.len] at h; simp [nums, List.getElem?_eq_getElem h]⟩
theorem tn_add (a b : Nat) : ((a : Int) + (b : Int)).toNat = a + b := by omega
theorem tn_addL (a b : Nat) : ((a : Int) + (no_index (OfNat.ofNat b) : Int)).toNat = a + OfNat.ofNat b := by
  show ((a : Int) + (b : Int)).toNat = a + b; omega
theorem tn_subL (a b : Nat) : ((a : Int) - (no_index (OfNat.ofNat b) : Int)).toNat = a - OfNat.ofNat b := by
  show ((a : Int) - (b : Int)).toNat = a - b; omega
section
variable {c : Ctx} {F : Fence} {nn : Nat} {id : Nat} {ops : Array Oper} {draw : Bool} {Q : Exit → Act → World → Prop} {σ0 σ : Sf} {i : Nat} {rest : List Oper} {tr : List Tr} {sup : List Nat}
structure RX (c : Ctx) (F : Fence) (nn : Nat) (id : Nat) (ops : Array Oper) (draw : Bool) (Q : Exit → Act → World → Prop) (σ0 : Sf) (i : Nat) (rest : List Oper) (σ : Sf) (tr : List Tr) (sup : List Nat) : Prop where
  go : RW c F nn id ops draw Q σ0 i rest σ tr
structure CX (c : Ctx) (F : Fence) (nn : Nat) (code : Code) (Q : Exit → Act → World → Prop) (σ : Sf) (sup : List Nat) : Prop where
  go : CW c F nn code Q σ
structure KX (c : Ctx) (K : Act → World → Prop) (σ : Sf) (sup : List Nat) : Prop where
  go : KW c K σ
theorem RX_o {o : Oper} {t : Tr} {gk : List Key} {sup' : List Nat} (hr : RX c F nn id ops draw Q σ0 (i + 1) rest (upd σ t.ws) (⟨orR gk t.rd, t.ws⟩ :: tr) sup') (hG : GOk ops σ o.guard gk) (hL : LocalO c F nn o σ t) : RX c F nn id ops draw Q σ0 i (o :: rest) σ tr sup :=
  ⟨RW_step (t := ⟨orR gk t.rd, t.ws⟩) (fun ho => hL.under hG rfl ho) hr.go⟩
theorem LocalO.po (hF : WideLike F) {d : Option Tmp} {op : Op} {v : V} {ks : List Key} {rt : TypeId} {pos : String} {af : Array Edge} {g : Option (Nat × Bool)} (hN : dOk c.N d = true) (hd : (match op with | .defer _ => true | _ => false) = false) (h : PO c.P σ op v ks) : LocalO c F nn ⟨d, op, rt, pos, af, g⟩ σ ⟨kr ks, putW d v⟩ :=
  LocalO.val hF hN (noDefer hd) fun s e a w hag hR => h.sound (fun q hq => hag q (kr_iff.2 hq)) hR
theorem RX_po (hF : WideLike F) {d : Tmp} {op : Op} {v : V} {ks : List Key} {rt : TypeId} {pos : String} {af : Array Edge} {g : Option (Nat × Bool)} {gk : List Key} {sup' : List Nat} (hr : RX c F nn id ops draw Q σ0 (i + 1) rest (upd σ [(.t d, .v v)]) (⟨orR gk (kr ks), [(.t d, .v v)]⟩ :: tr) sup')
    (hG : GOk ops σ g gk) (hN : dOk c.N (some d) = true) (hd : (match op with | .defer _ => true | _ => false) = false) (h : PO c.P σ op v ks) : RX c F nn id ops draw Q σ0 i (⟨some d, op, rt, pos, af, g⟩ :: rest) σ tr sup :=
  RX_o (t := ⟨kr ks, [(.t d, .v v)]⟩) hr hG (LocalO.po hF hN hd h)
theorem binC_int {P : Program} {t : TypeId} {op : BinOp} {k : IntKind} {a b : Int} (h1 : op ≠ .shl) (h2 : op ≠ .shr) : binC P t op (.int k a) (.int k b) = intC op k a b := by
  cases op <;> first | exact absurd rfl h1 | exact absurd rfl h2 | simp [binC]
inductive LfV : List V → List Value → Prop
  | nil : LfV [] []
  | cons {x : Value} {l : List V} {L : List Value} : LfV l L → LfV (.c (.v x) :: l) (x :: L)
theorem LfV.eq : ∀ {l : List V} {L : List Value}, LfV l L → l = L.map fun X => V.c (.v X)
  | _, _, .nil => rfl
  | _, _, .cons h => by rw [h.eq]; rfl
theorem eMove [hF : WideLike F] {d : Tmp} {x : Operand} {v : V} {rt : TypeId} {pos : String} {af : Array Edge} {g : Option (Nat × Bool)} {gk : List Key}
    (hr : RX c F nn id ops draw Q σ0 (i + 1) rest (upd σ [(.t d, .v (v))]) (⟨orR gk (kr (opk x)), [(.t d, .v (v))]⟩ :: tr) sup)
    (hG : autoParam (GOk ops σ g gk) aGOK._auto_1) (hx : opv σ x = some (v) := by rfl) (hN : dOk c.N (some d) = true := by rfl) :
    RX c F nn id ops draw Q σ0 i (⟨some d, .move x, rt, pos, af, g⟩ :: rest) σ tr sup := RX_po hF hr hG hN rfl (PO.move hx)
theorem eAssign [hF : WideLike F] {d : Tmp} {x : Operand} {v : V} {rt : TypeId} {pos : String} {af : Array Edge} {g : Option (Nat × Bool)} {gk : List Key}
    (hr : RX c F nn id ops draw Q σ0 (i + 1) rest (upd σ [(.t d, .v (v))]) (⟨orR gk (kr (opk x)), [(.t d, .v (v))]⟩ :: tr) sup)
    (hG : autoParam (GOk ops σ g gk) aGOK._auto_1) (hx : opv σ x = some (v) := by rfl) (hN : dOk c.N (some d) = true := by rfl) :
    RX c F nn id ops draw Q σ0 i (⟨some d, .assign x, rt, pos, af, g⟩ :: rest) σ tr sup := RX_po hF hr hG hN rfl (PO.assign hx)
theorem ePickT [hF : WideLike F] {d : Tmp} {x y z : Operand} {v : V} {b : Bool} {rt : TypeId} {pos : String} {af : Array Edge} {g : Option (Nat × Bool)} {gk : List Key}
    (hr : RX c F nn id ops draw Q σ0 (i + 1) rest (upd σ [(.t d, .v (v))]) (⟨orR gk (kr (opk x ++ opk y)), [(.t d, .v (v))]⟩ :: tr) sup)
    (hG : autoParam (GOk ops σ g gk) aGOK._auto_1) (hx : opv σ x = some (.c (.v (.bool b))) := by rfl) (hb : autoParam (b = true) aTRU._auto_1) (hy : opv σ y = some (v) := by rfl) (hN : dOk c.N (some d) = true := by rfl) :
    RX c F nn id ops draw Q σ0 i (⟨some d, .pick x y z, rt, pos, af, g⟩ :: rest) σ tr sup := RX_po hF hr hG hN rfl (PO.pickT (hb ▸ hx) hy)
theorem ePickF [hF : WideLike F] {d : Tmp} {x y z : Operand} {v : V} {b : Bool} {rt : TypeId} {pos : String} {af : Array Edge} {g : Option (Nat × Bool)} {gk : List Key}
    (hr : RX c F nn id ops draw Q σ0 (i + 1) rest (upd σ [(.t d, .v (v))]) (⟨orR gk (kr (opk x ++ opk z)), [(.t d, .v (v))]⟩ :: tr) sup)
    (hG : autoParam (GOk ops σ g gk) aGOK._auto_1) (hx : opv σ x = some (.c (.v (.bool b))) := by rfl) (hb : autoParam (b = false) aTRU._auto_1) (hz : opv σ z = some (v) := by rfl) (hN : dOk c.N (some d) = true := by rfl) :
    RX c F nn id ops draw Q σ0 i (⟨some d, .pick x y z, rt, pos, af, g⟩ :: rest) σ tr sup := RX_po hF hr hG hN rfl (PO.pickF (hb ▸ hx) hz)
theorem eExtC [hF : WideLike F] {d : Tmp} {x : Operand} {l : List (C ⊕ List C)} {j : Nat} {z : C} {rt : TypeId} {pos : String} {af : Array Edge} {g : Option (Nat × Bool)} {gk : List Key}
    (hr : RX c F nn id ops draw Q σ0 (i + 1) rest (upd σ [(.t d, .v (.c z))]) (⟨orR gk (kr (opk x)), [(.t d, .v (.c z))]⟩ :: tr) sup)
    (hG : autoParam (GOk ops σ g gk) aGOK._auto_1) (hx : opv σ x = some (.t l) := by rfl) (hz : l[j]? = some (.inl z) := by rfl) (hN : dOk c.N (some d) = true := by rfl) :
    RX c F nn id ops draw Q σ0 i (⟨some d, .extract x j, rt, pos, af, g⟩ :: rest) σ tr sup := RX_po hF hr hG hN rfl (PO.extC hx hz)
theorem eFunc [hF : WideLike F] {d : Tmp} {f : FuncId} {xs : List Operand} {l : List (Nat × Nat)} {ks : List Key} {rt : TypeId} {pos : String} {af : Array Edge} {g : Option (Nat × Bool)} {gk : List Key}
    (hr : RX c F nn id ops draw Q σ0 (i + 1) rest (upd σ [(.t d, .v (.c (.f f l)))]) (⟨orR gk (kr (ks)), [(.t d, .v (.c (.f f l)))]⟩ :: tr) sup)
    (hG : autoParam (GOk ops σ g gk) aGOK._auto_1) (hc : autoParam (Caps σ xs l ks) aCAPS._auto_1) (hN : dOk c.N (some d) = true := by rfl) :
    RX c F nn id ops draw Q σ0 i (⟨some d, .makeFunc (.func f) #[] xs.toArray, rt, pos, af, g⟩ :: rest) σ tr sup := RX_po hF hr hG hN rfl (PO.func hc)
theorem eFieldAddr [hF : WideLike F] {d : Tmp} {x : Operand} {n o j k o' : Nat} {t : TypeId} {fs : Array Field} {f : Field} {rt : TypeId} {pos : String} {af : Array Edge} {g : Option (Nat × Bool)} {gk : List Key}
    (hr : RX c F nn id ops draw Q σ0 (i + 1) rest (upd σ [(.t d, .v (.c (.p n o')))]) (⟨orR gk (kr (.l n :: opk x)), [(.t d, .v (.c (.p n o')))]⟩ :: tr) sup)
    (hG : autoParam (GOk ops σ g gk) aGOK._auto_1) (hx : opv σ x = some (.c (.p n o)) := by rfl) (ha : σ (.l n) = some (.l true) := by rfl) (hu : c.P.underlying t = some (.struct fs) := by rfl) (hf : fs[j]? = some f := by rfl) (hs : tS c.P f.type = some k := by rfl) (h0 : autoParam (k ≠ 0) aNE._auto_1) (ho : autoParam (Is (o + f.offset) o') aOFF._auto_1) (hN : dOk c.N (some d) = true := by rfl) :
    RX c F nn id ops draw Q σ0 i (⟨some d, .fieldAddr t x j, rt, pos, af, g⟩ :: rest) σ tr sup := RX_po hF hr hG hN rfl (ho.eq ▸ PO.fieldAddr hx ha hu hf hs h0)
theorem eIndexAddrS [hF : WideLike F] {d : Tmp} {x y : Operand} {n o len cap z o' : Nat} {t el : TypeId} {k : IntKind} {j : Int} {rt : TypeId} {pos : String} {af : Array Edge} {g : Option (Nat × Bool)} {gk : List Key}
    (hr : RX c F nn id ops draw Q σ0 (i + 1) rest (upd σ [(.t d, .v (.c (.p n o')))]) (⟨orR gk (kr (.l n :: (opk x ++ opk y))), [(.t d, .v (.c (.p n o')))]⟩ :: tr) sup)
    (hG : autoParam (GOk ops σ g gk) aGOK._auto_1) (hx : opv σ x = some (.c (.s n o len cap)) := by rfl) (ha : σ (.l n) = some (.l true) := by rfl) (hy : opv σ y = some (.c (.v (.int k j))) := by rfl) (hu : c.P.underlying t = some (.slice el) := by rfl) (hs : tS c.P el = some z := by rfl) (hj : autoParam (0 ≤ j ∧ j < len) aBND._auto_1) (ho : autoParam (Is (o + j.toNat * z) o') aOFF._auto_1) (hN : dOk c.N (some d) = true := by rfl) :
    RX c F nn id ops draw Q σ0 i (⟨some d, .indexAddr t x y, rt, pos, af, g⟩ :: rest) σ tr sup := RX_po hF hr hG hN rfl (ho.eq ▸ PO.indexAddrS hx ha hy hu hs hj)
theorem eIndexAddrG [hF : WideLike F] {d : Tmp} {x y : Operand} {n o len lb z' z o' : Nat} {t el : TypeId} {k : IntKind} {j : Int} {rt : TypeId} {pos : String} {af : Array Edge} {g : Option (Nat × Bool)} {gk : List Key}
    (hr : RX c F nn id ops draw Q σ0 (i + 1) rest (upd σ [(.t d, .v (.c (.p n o')))]) (⟨orR gk (kr (.l n :: (opk x ++ opk y))), [(.t d, .v (.c (.p n o')))]⟩ :: tr) sup)
    (hG : autoParam (GOk ops σ g gk) aGOK._auto_1) (hx : opv σ x = some (.c (.g n o len lb z')) := by rfl) (ha : σ (.l n) = some (.l true) := by rfl) (hy : opv σ y = some (.c (.v (.int k j))) := by rfl) (hu : c.P.underlying t = some (.slice el) := by rfl) (hs : tS c.P el = some z := by rfl) (hj : autoParam (0 ≤ j ∧ j < len) aBND._auto_1) (ho : autoParam (Is (o + j.toNat * z) o') aOFF._auto_1) (hN : dOk c.N (some d) = true := by rfl) :
    RX c F nn id ops draw Q σ0 i (⟨some d, .indexAddr t x y, rt, pos, af, g⟩ :: rest) σ tr sup := RX_po hF hr hG hN rfl (ho.eq ▸ PO.indexAddrG hx ha hy hu hs hj)
theorem eSliceS [hF : WideLike F] {d : Tmp} {x : Operand} {n o len cap z l h m o' len' cap' : Nat} {lo hi mx : Option Operand} {lo' hi' mx' : Option Int} {t el : TypeId} {k1 k2 k3 : List Key} {rt : TypeId} {pos : String} {af : Array Edge} {g : Option (Nat × Bool)} {gk : List Key}
    (hr : RX c F nn id ops draw Q σ0 (i + 1) rest (upd σ [(.t d, .v (.c (.s n o' len' cap')))]) (⟨orR gk (kr (.l n :: (opk x ++ (k1 ++ (k2 ++ k3))))), [(.t d, .v (.c (.s n o' len' cap')))]⟩ :: tr) sup)
    (hG : autoParam (GOk ops σ g gk) aGOK._auto_1) (hx : opv σ x = some (.c (.s n o len cap)) := by rfl) (ha : σ (.l n) = some (.l true) := by rfl) (h1 : autoParam (OptI σ lo lo' k1) aOPT._auto_1) (h2 : autoParam (OptI σ hi hi' k2) aOPT._auto_1) (h3 : autoParam (OptI σ mx mx' k3) aOPT._auto_1) (hu : c.P.underlying t = some (.slice el) := by rfl) (hs : tS c.P el = some z := by rfl) (hb : autoParam (bnd len cap lo' hi' mx' l h m) aBDS._auto_1) (hlh : autoParam (l ≤ h) aLEN._auto_1) (hhm : autoParam (h ≤ m) aLEN._auto_1) (e1 : autoParam (Is (o + l * z) o') aOFF._auto_1) (e2 : autoParam (Is (h - l) len') aOFF._auto_1) (e3 : autoParam (Is (m - l) cap') aOFF._auto_1) (hN : dOk c.N (some d) = true := by rfl) :
    RX c F nn id ops draw Q σ0 i (⟨some d, .slice t x lo hi mx, rt, pos, af, g⟩ :: rest) σ tr sup := RX_po hF hr hG hN rfl (e1.eq ▸ e2.eq ▸ e3.eq ▸ PO.sliceS hx ha h1 h2 h3 hu hs hb hlh hhm)
theorem eSliceG [hF : WideLike F] {d : Tmp} {x : Operand} {n o len lb z l h o' len' cap' q : Nat} {lo hi : Option Operand} {lo' hi' : Option Int} {t el : TypeId} {k1 k2 : List Key} {rt : TypeId} {pos : String} {af : Array Edge} {g : Option (Nat × Bool)} {gk : List Key}
    (hr : RX c F nn id ops draw Q σ0 (i + 1) rest (upd σ [(.t d, .v (.c (.g n o' len' cap' z)))]) (⟨orR gk (kr (.l n :: (opk x ++ (k1 ++ k2)))), [(.t d, .v (.c (.g n o' len' cap' z)))]⟩ :: tr) sup)
    (hG : autoParam (GOk ops σ g gk) aGOK._auto_1) (hx : opv σ x = some (.c (.g n o len lb z)) := by rfl) (ha : σ (.l n) = some (.l true) := by rfl) (h1 : autoParam (OptI σ lo lo' k1) aOPT._auto_1) (h2 : autoParam (OptI σ hi hi' k2) aOPT._auto_1) (hu : c.P.underlying t = some (.slice el) := by rfl) (hs : tS c.P el = some z := by rfl) (hq : autoParam (Is (max len lb) q) aOFF._auto_1) (hb : autoParam (bnd len q lo' hi' none l h q) aBDS._auto_1) (hlh : autoParam (l ≤ h) aLEN._auto_1) (e1 : autoParam (Is (o + l * z) o') aOFF._auto_1) (e2 : autoParam (Is (h - l) len') aOFF._auto_1) (e3 : autoParam (Is (q - l) cap') aOFF._auto_1) (hN : dOk c.N (some d) = true := by rfl) :
    RX c F nn id ops draw Q σ0 i (⟨some d, .slice t x lo hi none, rt, pos, af, g⟩ :: rest) σ tr sup := RX_po hF hr hG hN rfl (e1.eq ▸ e2.eq ▸ e3.eq ▸ hq.eq ▸ PO.sliceG hx ha h1 h2 hu hs (hq.eq.symm ▸ hb) hlh)
theorem eNil [hF : WideLike F] {d : Tmp} {x : Operand} {n o : Nat} {rt : TypeId} {pos : String} {af : Array Edge} {g : Option (Nat × Bool)} {gk : List Key}
    (hr : RX c F nn id ops draw Q σ0 (i + 1) rest (upd σ [(.t d, .v (.c (.p n o)))]) (⟨orR gk (kr (.l n :: opk x)), [(.t d, .v (.c (.p n o)))]⟩ :: tr) sup)
    (hG : autoParam (GOk ops σ g gk) aGOK._auto_1) (hx : opv σ x = some (.c (.p n o)) := by rfl) (ha : σ (.l n) = some (.l true) := by rfl) (hN : dOk c.N (some d) = true := by rfl) :
    RX c F nn id ops draw Q σ0 i (⟨some d, .nilCheck x, rt, pos, af, g⟩ :: rest) σ tr sup := RX_po hF hr hG hN rfl (PO.nilCheck hx ha)
def lv (s : Sf) (n : Nat) : Bool := match s (.l n) with
  | some (.l b) => b
  | _ => false
theorem lv_eq {s : Sf} {n : Nat} (h : lv s n = true) : s (.l n) = some (.l true) := by
  unfold lv at h
  split at h
  · rename_i b hb; rw [hb, h]
  · cases h
theorem eAdd [hF : WideLike F] {d : Tmp} {x y : Operand} {k : IntKind} {a b r : Int} {t ty : TypeId} {rt : TypeId} {pos : String} {af : Array Edge} {g : Option (Nat × Bool)} {gk : List Key}
    (hr : RX c F nn id ops draw Q σ0 (i + 1) rest (upd σ [(.t d, .v (.c (.v (.int k r))))]) (⟨orR gk (kr (opk x ++ opk y)), [(.t d, .v (.c (.v (.int k r))))]⟩ :: tr) sup)
    (hG : autoParam (GOk ops σ g gk) aGOK._auto_1) (hx : opv σ x = some (.c (.v (.int k a))) := by rfl) (hy : opv σ y = some (.c (.v (.int k b))) := by rfl) (hr' : autoParam (Wr k (a + b) r) aWR._auto_1) (hN : dOk c.N (some d) = true := by rfl) :
    RX c F nn id ops draw Q σ0 i (⟨some d, .binOp .add t x y ty, rt, pos, af, g⟩ :: rest) σ tr sup := RX_po hF hr hG hN rfl (PO.bin hx hy (by rw [binC_int (by simp) (by simp)]; simp only [intC, hr'.eq]))
theorem eSub [hF : WideLike F] {d : Tmp} {x y : Operand} {k : IntKind} {a b r : Int} {t ty : TypeId} {rt : TypeId} {pos : String} {af : Array Edge} {g : Option (Nat × Bool)} {gk : List Key}
    (hr : RX c F nn id ops draw Q σ0 (i + 1) rest (upd σ [(.t d, .v (.c (.v (.int k r))))]) (⟨orR gk (kr (opk x ++ opk y)), [(.t d, .v (.c (.v (.int k r))))]⟩ :: tr) sup)
    (hG : autoParam (GOk ops σ g gk) aGOK._auto_1) (hx : opv σ x = some (.c (.v (.int k a))) := by rfl) (hy : opv σ y = some (.c (.v (.int k b))) := by rfl) (hr' : autoParam (Wr k (a - b) r) aWR._auto_1) (hN : dOk c.N (some d) = true := by rfl) :
    RX c F nn id ops draw Q σ0 i (⟨some d, .binOp .sub t x y ty, rt, pos, af, g⟩ :: rest) σ tr sup := RX_po hF hr hG hN rfl (PO.bin hx hy (by rw [binC_int (by simp) (by simp)]; simp only [intC, hr'.eq]))
theorem eMul [hF : WideLike F] {d : Tmp} {x y : Operand} {k : IntKind} {a b r : Int} {t ty : TypeId} {rt : TypeId} {pos : String} {af : Array Edge} {g : Option (Nat × Bool)} {gk : List Key}
    (hr : RX c F nn id ops draw Q σ0 (i + 1) rest (upd σ [(.t d, .v (.c (.v (.int k r))))]) (⟨orR gk (kr (opk x ++ opk y)), [(.t d, .v (.c (.v (.int k r))))]⟩ :: tr) sup)
    (hG : autoParam (GOk ops σ g gk) aGOK._auto_1) (hx : opv σ x = some (.c (.v (.int k a))) := by rfl) (hy : opv σ y = some (.c (.v (.int k b))) := by rfl) (hr' : autoParam (Wr k (a * b) r) aWR._auto_1) (hN : dOk c.N (some d) = true := by rfl) :
    RX c F nn id ops draw Q σ0 i (⟨some d, .binOp .mul t x y ty, rt, pos, af, g⟩ :: rest) σ tr sup := RX_po hF hr hG hN rfl (PO.bin hx hy (by rw [binC_int (by simp) (by simp)]; simp only [intC, hr'.eq]))
theorem eQuo [hF : WideLike F] {d : Tmp} {x y : Operand} {k : IntKind} {a b r : Int} {t ty : TypeId} {rt : TypeId} {pos : String} {af : Array Edge} {g : Option (Nat × Bool)} {gk : List Key}
    (hr : RX c F nn id ops draw Q σ0 (i + 1) rest (upd σ [(.t d, .v (.c (.v (.int k r))))]) (⟨orR gk (kr (opk x ++ opk y)), [(.t d, .v (.c (.v (.int k r))))]⟩ :: tr) sup)
    (hG : autoParam (GOk ops σ g gk) aGOK._auto_1) (hx : opv σ x = some (.c (.v (.int k a))) := by rfl) (hy : opv σ y = some (.c (.v (.int k b))) := by rfl) (h0 : autoParam (b ≠ 0) aNE._auto_1) (hr' : autoParam (Qu k a b r) aQU._auto_1) (hN : dOk c.N (some d) = true := by rfl) :
    RX c F nn id ops draw Q σ0 i (⟨some d, .binOp .quo t x y ty, rt, pos, af, g⟩ :: rest) σ tr sup := RX_po hF hr hG hN rfl (PO.bin hx hy (by rw [binC_int (by simp) (by simp)]; simp only [intC, if_neg h0, hr'.eq]))
theorem eRem [hF : WideLike F] {d : Tmp} {x y : Operand} {k : IntKind} {a b r : Int} {t ty : TypeId} {rt : TypeId} {pos : String} {af : Array Edge} {g : Option (Nat × Bool)} {gk : List Key}
    (hr : RX c F nn id ops draw Q σ0 (i + 1) rest (upd σ [(.t d, .v (.c (.v (.int k r))))]) (⟨orR gk (kr (opk x ++ opk y)), [(.t d, .v (.c (.v (.int k r))))]⟩ :: tr) sup)
    (hG : autoParam (GOk ops σ g gk) aGOK._auto_1) (hx : opv σ x = some (.c (.v (.int k a))) := by rfl) (hy : opv σ y = some (.c (.v (.int k b))) := by rfl) (h0 : autoParam (b ≠ 0) aNE._auto_1) (hr' : autoParam (Rm a b r) aRM._auto_1) (hN : dOk c.N (some d) = true := by rfl) :
    RX c F nn id ops draw Q σ0 i (⟨some d, .binOp .rem t x y ty, rt, pos, af, g⟩ :: rest) σ tr sup := RX_po hF hr hG hN rfl (PO.bin hx hy (by rw [binC_int (by simp) (by simp)]; simp only [intC, if_neg h0, hr'.eq]))
/-- What bits come to. -/
structure Bt (k : IntKind) (op : BinOp) (a b r : Int) : Prop where
  eq : intC op k a b = some (.int k r)
theorem eAnd [hF : WideLike F] {d : Tmp} {x y : Operand} {k : IntKind} {a b r : Int} {t ty : TypeId} {rt : TypeId} {pos : String} {af : Array Edge} {g : Option (Nat × Bool)} {gk : List Key}
    (hr : RX c F nn id ops draw Q σ0 (i + 1) rest (upd σ [(.t d, .v (.c (.v (.int k r))))]) (⟨orR gk (kr (opk x ++ opk y)), [(.t d, .v (.c (.v (.int k r))))]⟩ :: tr) sup)
    (hG : autoParam (GOk ops σ g gk) aGOK._auto_1) (hx : opv σ x = some (.c (.v (.int k a))) := by rfl) (hy : opv σ y = some (.c (.v (.int k b))) := by rfl) (hr' : autoParam (Bt k .and a b r) aBT._auto_1) (hN : dOk c.N (some d) = true := by rfl) :
    RX c F nn id ops draw Q σ0 i (⟨some d, .binOp .and t x y ty, rt, pos, af, g⟩ :: rest) σ tr sup := RX_po hF hr hG hN rfl (PO.bin hx hy (by rw [binC_int (by simp) (by simp)]; exact hr'.eq))
theorem eOr [hF : WideLike F] {d : Tmp} {x y : Operand} {k : IntKind} {a b r : Int} {t ty : TypeId} {rt : TypeId} {pos : String} {af : Array Edge} {g : Option (Nat × Bool)} {gk : List Key}
    (hr : RX c F nn id ops draw Q σ0 (i + 1) rest (upd σ [(.t d, .v (.c (.v (.int k r))))]) (⟨orR gk (kr (opk x ++ opk y)), [(.t d, .v (.c (.v (.int k r))))]⟩ :: tr) sup)
    (hG : autoParam (GOk ops σ g gk) aGOK._auto_1) (hx : opv σ x = some (.c (.v (.int k a))) := by rfl) (hy : opv σ y = some (.c (.v (.int k b))) := by rfl) (hr' : autoParam (Bt k .or a b r) aBT._auto_1) (hN : dOk c.N (some d) = true := by rfl) :
    RX c F nn id ops draw Q σ0 i (⟨some d, .binOp .or t x y ty, rt, pos, af, g⟩ :: rest) σ tr sup := RX_po hF hr hG hN rfl (PO.bin hx hy (by rw [binC_int (by simp) (by simp)]; exact hr'.eq))
theorem eXor [hF : WideLike F] {d : Tmp} {x y : Operand} {k : IntKind} {a b r : Int} {t ty : TypeId} {rt : TypeId} {pos : String} {af : Array Edge} {g : Option (Nat × Bool)} {gk : List Key}
    (hr : RX c F nn id ops draw Q σ0 (i + 1) rest (upd σ [(.t d, .v (.c (.v (.int k r))))]) (⟨orR gk (kr (opk x ++ opk y)), [(.t d, .v (.c (.v (.int k r))))]⟩ :: tr) sup)
    (hG : autoParam (GOk ops σ g gk) aGOK._auto_1) (hx : opv σ x = some (.c (.v (.int k a))) := by rfl) (hy : opv σ y = some (.c (.v (.int k b))) := by rfl) (hr' : autoParam (Bt k .xor a b r) aBT._auto_1) (hN : dOk c.N (some d) = true := by rfl) :
    RX c F nn id ops draw Q σ0 i (⟨some d, .binOp .xor t x y ty, rt, pos, af, g⟩ :: rest) σ tr sup := RX_po hF hr hG hN rfl (PO.bin hx hy (by rw [binC_int (by simp) (by simp)]; exact hr'.eq))
theorem eShl [hF : WideLike F] {d : Tmp} {x y : Operand} {k yk : IntKind} {a b m r : Int} {t ty : TypeId} {rt : TypeId} {pos : String} {af : Array Edge} {g : Option (Nat × Bool)} {gk : List Key}
    (hr : RX c F nn id ops draw Q σ0 (i + 1) rest (upd σ [(.t d, .v (.c (.v (.int k r))))]) (⟨orR gk (kr (opk x ++ opk y)), [(.t d, .v (.c (.v (.int k r))))]⟩ :: tr) sup)
    (hG : autoParam (GOk ops σ g gk) aGOK._auto_1) (hx : opv σ x = some (.c (.v (.int k a))) := by rfl) (hy : opv σ y = some (.c (.v (.int yk b))) := by rfl) (h0 : autoParam (¬ b < 0) aBND._auto_1) (hm : autoParam (Sh k b m) aSH._auto_1) (hr' : autoParam (Wr k (a * m) r) aWR._auto_1) (hN : dOk c.N (some d) = true := by rfl) :
    RX c F nn id ops draw Q σ0 i (⟨some d, .binOp .shl t x y ty, rt, pos, af, g⟩ :: rest) σ tr sup := RX_po hF hr hG hN rfl (PO.bin hx hy (by simp only [binC, shC, if_neg h0, hm.eq, hr'.eq]))
theorem eShr [hF : WideLike F] {d : Tmp} {x y : Operand} {k yk : IntKind} {a b m r : Int} {t ty : TypeId} {rt : TypeId} {pos : String} {af : Array Edge} {g : Option (Nat × Bool)} {gk : List Key}
    (hr : RX c F nn id ops draw Q σ0 (i + 1) rest (upd σ [(.t d, .v (.c (.v (.int k r))))]) (⟨orR gk (kr (opk x ++ opk y)), [(.t d, .v (.c (.v (.int k r))))]⟩ :: tr) sup)
    (hG : autoParam (GOk ops σ g gk) aGOK._auto_1) (hx : opv σ x = some (.c (.v (.int k a))) := by rfl) (hy : opv σ y = some (.c (.v (.int yk b))) := by rfl) (h0 : autoParam (¬ b < 0) aBND._auto_1) (hm : autoParam (Sh k b m) aSH._auto_1) (hr' : autoParam (Is (a.fdiv m) r) aFD._auto_1) (hN : dOk c.N (some d) = true := by rfl) :
    RX c F nn id ops draw Q σ0 i (⟨some d, .binOp .shr t x y ty, rt, pos, af, g⟩ :: rest) σ tr sup := RX_po hF hr hG hN rfl (PO.bin hx hy (by simp only [binC, shC, if_neg h0, hm.eq, hr'.eq]))
theorem eLss [hF : WideLike F] {d : Tmp} {x y : Operand} {k : IntKind} {a b : Int} {r : Bool} {t ty : TypeId} {rt : TypeId} {pos : String} {af : Array Edge} {g : Option (Nat × Bool)} {gk : List Key}
    (hr : RX c F nn id ops draw Q σ0 (i + 1) rest (upd σ [(.t d, .v (.c (.v (.bool r))))]) (⟨orR gk (kr (opk x ++ opk y)), [(.t d, .v (.c (.v (.bool r))))]⟩ :: tr) sup)
    (hG : autoParam (GOk ops σ g gk) aGOK._auto_1) (hx : opv σ x = some (.c (.v (.int k a))) := by rfl) (hy : opv σ y = some (.c (.v (.int k b))) := by rfl) (hr' : autoParam (Tv (decide (a < b)) r) aTV._auto_1) (hN : dOk c.N (some d) = true := by rfl) :
    RX c F nn id ops draw Q σ0 i (⟨some d, .binOp .lss t x y ty, rt, pos, af, g⟩ :: rest) σ tr sup := RX_po hF hr hG hN rfl (PO.bin hx hy (by rw [binC_int (by simp) (by simp)]; simp only [intC, hr'.eq]))
theorem eLeq [hF : WideLike F] {d : Tmp} {x y : Operand} {k : IntKind} {a b : Int} {r : Bool} {t ty : TypeId} {rt : TypeId} {pos : String} {af : Array Edge} {g : Option (Nat × Bool)} {gk : List Key}
    (hr : RX c F nn id ops draw Q σ0 (i + 1) rest (upd σ [(.t d, .v (.c (.v (.bool r))))]) (⟨orR gk (kr (opk x ++ opk y)), [(.t d, .v (.c (.v (.bool r))))]⟩ :: tr) sup)
    (hG : autoParam (GOk ops σ g gk) aGOK._auto_1) (hx : opv σ x = some (.c (.v (.int k a))) := by rfl) (hy : opv σ y = some (.c (.v (.int k b))) := by rfl) (hr' : autoParam (Tv (decide (a ≤ b)) r) aTV._auto_1) (hN : dOk c.N (some d) = true := by rfl) :
    RX c F nn id ops draw Q σ0 i (⟨some d, .binOp .leq t x y ty, rt, pos, af, g⟩ :: rest) σ tr sup := RX_po hF hr hG hN rfl (PO.bin hx hy (by rw [binC_int (by simp) (by simp)]; simp only [intC, hr'.eq]))
theorem eGtr [hF : WideLike F] {d : Tmp} {x y : Operand} {k : IntKind} {a b : Int} {r : Bool} {t ty : TypeId} {rt : TypeId} {pos : String} {af : Array Edge} {g : Option (Nat × Bool)} {gk : List Key}
    (hr : RX c F nn id ops draw Q σ0 (i + 1) rest (upd σ [(.t d, .v (.c (.v (.bool r))))]) (⟨orR gk (kr (opk x ++ opk y)), [(.t d, .v (.c (.v (.bool r))))]⟩ :: tr) sup)
    (hG : autoParam (GOk ops σ g gk) aGOK._auto_1) (hx : opv σ x = some (.c (.v (.int k a))) := by rfl) (hy : opv σ y = some (.c (.v (.int k b))) := by rfl) (hr' : autoParam (Tv (decide (b < a)) r) aTV._auto_1) (hN : dOk c.N (some d) = true := by rfl) :
    RX c F nn id ops draw Q σ0 i (⟨some d, .binOp .gtr t x y ty, rt, pos, af, g⟩ :: rest) σ tr sup := RX_po hF hr hG hN rfl (PO.bin hx hy (by rw [binC_int (by simp) (by simp)]; simp only [intC, hr'.eq]))
theorem eGeq [hF : WideLike F] {d : Tmp} {x y : Operand} {k : IntKind} {a b : Int} {r : Bool} {t ty : TypeId} {rt : TypeId} {pos : String} {af : Array Edge} {g : Option (Nat × Bool)} {gk : List Key}
    (hr : RX c F nn id ops draw Q σ0 (i + 1) rest (upd σ [(.t d, .v (.c (.v (.bool r))))]) (⟨orR gk (kr (opk x ++ opk y)), [(.t d, .v (.c (.v (.bool r))))]⟩ :: tr) sup)
    (hG : autoParam (GOk ops σ g gk) aGOK._auto_1) (hx : opv σ x = some (.c (.v (.int k a))) := by rfl) (hy : opv σ y = some (.c (.v (.int k b))) := by rfl) (hr' : autoParam (Tv (decide (b ≤ a)) r) aTV._auto_1) (hN : dOk c.N (some d) = true := by rfl) :
    RX c F nn id ops draw Q σ0 i (⟨some d, .binOp .geq t x y ty, rt, pos, af, g⟩ :: rest) σ tr sup := RX_po hF hr hG hN rfl (PO.bin hx hy (by rw [binC_int (by simp) (by simp)]; simp only [intC, hr'.eq]))
theorem eEql [hF : WideLike F] {d : Tmp} {x y : Operand} {k : IntKind} {a b : Int} {r : Bool} {t ty : TypeId} {rt : TypeId} {pos : String} {af : Array Edge} {g : Option (Nat × Bool)} {gk : List Key}
    (hr : RX c F nn id ops draw Q σ0 (i + 1) rest (upd σ [(.t d, .v (.c (.v (.bool r))))]) (⟨orR gk (kr (opk x ++ opk y)), [(.t d, .v (.c (.v (.bool r))))]⟩ :: tr) sup)
    (hG : autoParam (GOk ops σ g gk) aGOK._auto_1) (hx : opv σ x = some (.c (.v (.int k a))) := by rfl) (hy : opv σ y = some (.c (.v (.int k b))) := by rfl) (hr' : autoParam (Tv (a == b) r) aTV._auto_1) (hN : dOk c.N (some d) = true := by rfl) :
    RX c F nn id ops draw Q σ0 i (⟨some d, .binOp .eql t x y ty, rt, pos, af, g⟩ :: rest) σ tr sup := RX_po hF hr hG hN rfl (PO.bin hx hy (by rw [binC_int (by simp) (by simp)]; simp only [intC, hr'.eq]))
theorem eNeq [hF : WideLike F] {d : Tmp} {x y : Operand} {k : IntKind} {a b : Int} {r : Bool} {t ty : TypeId} {rt : TypeId} {pos : String} {af : Array Edge} {g : Option (Nat × Bool)} {gk : List Key}
    (hr : RX c F nn id ops draw Q σ0 (i + 1) rest (upd σ [(.t d, .v (.c (.v (.bool r))))]) (⟨orR gk (kr (opk x ++ opk y)), [(.t d, .v (.c (.v (.bool r))))]⟩ :: tr) sup)
    (hG : autoParam (GOk ops σ g gk) aGOK._auto_1) (hx : opv σ x = some (.c (.v (.int k a))) := by rfl) (hy : opv σ y = some (.c (.v (.int k b))) := by rfl) (hr' : autoParam (Tv (a != b) r) aTV._auto_1) (hN : dOk c.N (some d) = true := by rfl) :
    RX c F nn id ops draw Q σ0 i (⟨some d, .binOp .neq t x y ty, rt, pos, af, g⟩ :: rest) σ tr sup := RX_po hF hr hG hN rfl (PO.bin hx hy (by rw [binC_int (by simp) (by simp)]; simp only [intC, hr'.eq]))
theorem eEqlB [hF : WideLike F] {d : Tmp} {x y : Operand} {a b r : Bool} {t ty : TypeId} {rt : TypeId} {pos : String} {af : Array Edge} {g : Option (Nat × Bool)} {gk : List Key}
    (hr : RX c F nn id ops draw Q σ0 (i + 1) rest (upd σ [(.t d, .v (.c (.v (.bool r))))]) (⟨orR gk (kr (opk x ++ opk y)), [(.t d, .v (.c (.v (.bool r))))]⟩ :: tr) sup)
    (hG : autoParam (GOk ops σ g gk) aGOK._auto_1) (hx : opv σ x = some (.c (.v (.bool a))) := by rfl) (hy : opv σ y = some (.c (.v (.bool b))) := by rfl) (hu : c.P.underlying t = some .bool := by rfl) (hr' : autoParam (Tv (a == b) r) aTB._auto_1) (hN : dOk c.N (some d) = true := by rfl) :
    RX c F nn id ops draw Q σ0 i (⟨some d, .binOp .eql t x y ty, rt, pos, af, g⟩ :: rest) σ tr sup := RX_po hF hr hG hN rfl (PO.bin hx hy (by simp only [binC, hu, hr'.eq]))
theorem eEqlA [hF : WideLike F] {d : Tmp} {x y : Operand} {l m : List C} {L M : List Value} {r : Bool} {t ty : TypeId} {rt : TypeId} {pos : String} {af : Array Edge} {g : Option (Nat × Bool)} {gk : List Key}
    (hr : RX c F nn id ops draw Q σ0 (i + 1) rest (upd σ [(.t d, .v (.c (.v (.bool r))))]) (⟨orR gk (kr (opk x ++ opk y)), [(.t d, .v (.c (.v (.bool r))))]⟩ :: tr) sup)
    (hG : autoParam (GOk ops σ g gk) aGOK._auto_1) (hx : opv σ x = some (.a l) := by rfl) (hy : opv σ y = some (.a m) := by rfl) (hl : autoParam (plainL l = some L) aPLL._auto_1) (hm : autoParam (plainL m = some M) aPLL._auto_1) (hk : autoParam (eqOkB c.P t L M = true) aEQK._auto_1) (hr' : autoParam (Tv (eqs L M) r) aTS._auto_1) (hN : dOk c.N (some d) = true := by rfl) :
    RX c F nn id ops draw Q σ0 i (⟨some d, .binOp .eql t x y ty, rt, pos, af, g⟩ :: rest) σ tr sup := RX_po hF hr hG hN rfl (hr'.eq ▸ PO.eqA hx hy hl hm hk)
theorem eNeqA [hF : WideLike F] {d : Tmp} {x y : Operand} {l m : List C} {L M : List Value} {r : Bool} {t ty : TypeId} {rt : TypeId} {pos : String} {af : Array Edge} {g : Option (Nat × Bool)} {gk : List Key}
    (hr : RX c F nn id ops draw Q σ0 (i + 1) rest (upd σ [(.t d, .v (.c (.v (.bool r))))]) (⟨orR gk (kr (opk x ++ opk y)), [(.t d, .v (.c (.v (.bool r))))]⟩ :: tr) sup)
    (hG : autoParam (GOk ops σ g gk) aGOK._auto_1) (hx : opv σ x = some (.a l) := by rfl) (hy : opv σ y = some (.a m) := by rfl) (hl : autoParam (plainL l = some L) aPLL._auto_1) (hm : autoParam (plainL m = some M) aPLL._auto_1) (hk : autoParam (eqOkB c.P t L M = true) aEQK._auto_1) (hr' : autoParam (Tv (!eqs L M) r) aTS._auto_1) (hN : dOk c.N (some d) = true := by rfl) :
    RX c F nn id ops draw Q σ0 i (⟨some d, .binOp .neq t x y ty, rt, pos, af, g⟩ :: rest) σ tr sup := RX_po hF hr hG hN rfl (hr'.eq ▸ PO.neA hx hy hl hm hk)
theorem eEqN [hF : WideLike F] {d : Tmp} {x y : Operand} {n o : Nat} {t ty el : TypeId} {rt : TypeId} {pos : String} {af : Array Edge} {g : Option (Nat × Bool)} {gk : List Key}
    (hr : RX c F nn id ops draw Q σ0 (i + 1) rest (upd σ [(.t d, .v (.c (.v (.bool false))))]) (⟨orR gk (kr (.l n :: (opk x ++ opk y))), [(.t d, .v (.c (.v (.bool false))))]⟩ :: tr) sup)
    (hG : autoParam (GOk ops σ g gk) aGOK._auto_1) (hx : opv σ x = some (.c (.p n o)) := by rfl) (ha : σ (.l n) = some (.l true) := by rfl) (hy : opv σ y = some (.c (.v (.pointer none))) := by rfl) (hu : c.P.underlying t = some (.pointer el) := by rfl) (hN : dOk c.N (some d) = true := by rfl) :
    RX c F nn id ops draw Q σ0 i (⟨some d, .binOp .eql t x y ty, rt, pos, af, g⟩ :: rest) σ tr sup := RX_po hF hr hG hN rfl (PO.eqN hx ha hy hu)
theorem eNeN [hF : WideLike F] {d : Tmp} {x y : Operand} {n o : Nat} {t ty el : TypeId} {rt : TypeId} {pos : String} {af : Array Edge} {g : Option (Nat × Bool)} {gk : List Key}
    (hr : RX c F nn id ops draw Q σ0 (i + 1) rest (upd σ [(.t d, .v (.c (.v (.bool true))))]) (⟨orR gk (kr (.l n :: (opk x ++ opk y))), [(.t d, .v (.c (.v (.bool true))))]⟩ :: tr) sup)
    (hG : autoParam (GOk ops σ g gk) aGOK._auto_1) (hx : opv σ x = some (.c (.p n o)) := by rfl) (ha : σ (.l n) = some (.l true) := by rfl) (hy : opv σ y = some (.c (.v (.pointer none))) := by rfl) (hu : c.P.underlying t = some (.pointer el) := by rfl) (hN : dOk c.N (some d) = true := by rfl) :
    RX c F nn id ops draw Q σ0 i (⟨some d, .binOp .neq t x y ty, rt, pos, af, g⟩ :: rest) σ tr sup := RX_po hF hr hG hN rfl (PO.neN hx ha hy hu)
theorem eStrNe [hF : WideLike F] {d : Tmp} {x y : Operand} {a b : ByteArray} {r : Bool} {t ty : TypeId} {rt : TypeId} {pos : String} {af : Array Edge} {g : Option (Nat × Bool)} {gk : List Key}
    (hr : RX c F nn id ops draw Q σ0 (i + 1) rest (upd σ [(.t d, .v (.c (.v (.bool r))))]) (⟨orR gk (kr (opk x ++ opk y)), [(.t d, .v (.c (.v (.bool r))))]⟩ :: tr) sup)
    (hG : autoParam (GOk ops σ g gk) aGOK._auto_1) (hx : opv σ x = some (.c (.v (.string a))) := by rfl) (hy : opv σ y = some (.c (.v (.string b))) := by rfl) (hr' : autoParam (Tv (!(a.data.toList == b.data.toList)) r) aTSTR._auto_1) (hN : dOk c.N (some d) = true := by rfl) :
    RX c F nn id ops draw Q σ0 i (⟨some d, .binOp .neq t x y ty, rt, pos, af, g⟩ :: rest) σ tr sup := RX_po hF hr hG hN rfl (PO.bin hx hy (by simp only [binC, strC, bytesEq_eq, hr'.eq]))
theorem eNot [hF : WideLike F] {d : Tmp} {x : Operand} {b r : Bool} {t : TypeId} {rt : TypeId} {pos : String} {af : Array Edge} {g : Option (Nat × Bool)} {gk : List Key}
    (hr : RX c F nn id ops draw Q σ0 (i + 1) rest (upd σ [(.t d, .v (.c (.v (.bool r))))]) (⟨orR gk (kr (opk x)), [(.t d, .v (.c (.v (.bool r))))]⟩ :: tr) sup)
    (hG : autoParam (GOk ops σ g gk) aGOK._auto_1) (hx : opv σ x = some (.c (.v (.bool b))) := by rfl) (hr' : autoParam (Tv (!b) r) aTB._auto_1) (hN : dOk c.N (some d) = true := by rfl) :
    RX c F nn id ops draw Q σ0 i (⟨some d, .unOp .not t x, rt, pos, af, g⟩ :: rest) σ tr sup := RX_po hF hr hG hN rfl (PO.un hx (by simp only [unC, hr'.eq]))
theorem eNeg [hF : WideLike F] {d : Tmp} {x : Operand} {k : IntKind} {a r : Int} {t : TypeId} {rt : TypeId} {pos : String} {af : Array Edge} {g : Option (Nat × Bool)} {gk : List Key}
    (hr : RX c F nn id ops draw Q σ0 (i + 1) rest (upd σ [(.t d, .v (.c (.v (.int k r))))]) (⟨orR gk (kr (opk x)), [(.t d, .v (.c (.v (.int k r))))]⟩ :: tr) sup)
    (hG : autoParam (GOk ops σ g gk) aGOK._auto_1) (hx : opv σ x = some (.c (.v (.int k a))) := by rfl) (hr' : autoParam (Wr k (0 - a) r) aWR._auto_1) (hN : dOk c.N (some d) = true := by rfl) :
    RX c F nn id ops draw Q σ0 i (⟨some d, .unOp .neg t x, rt, pos, af, g⟩ :: rest) σ tr sup := RX_po hF hr hG hN rfl (PO.un hx (by simp only [unC, hr'.eq]))
theorem eConv [hF : WideLike F] {d : Tmp} {x : Operand} {k k' : IntKind} {n r : Int} {e : TypeDesc} {src dst : TypeId} {rt : TypeId} {pos : String} {af : Array Edge} {g : Option (Nat × Bool)} {gk : List Key}
    (hr : RX c F nn id ops draw Q σ0 (i + 1) rest (upd σ [(.t d, .v (.c (.v (.int k' r))))]) (⟨orR gk (kr (opk x)), [(.t d, .v (.c (.v (.int k' r))))]⟩ :: tr) sup)
    (hG : autoParam (GOk ops σ g gk) aGOK._auto_1) (hx : opv σ x = some (.c (.v (.int k n))) := by rfl) (h1 : c.P.underlying src = some e := by rfl) (h2 : c.P.underlying dst = some (.int k') := by rfl) (hr' : autoParam (Wr k' n r) aWR._auto_1) (hN : dOk c.N (some d) = true := by rfl) :
    RX c F nn id ops draw Q σ0 i (⟨some d, .convert src dst x, rt, pos, af, g⟩ :: rest) σ tr sup := RX_po hF hr hG hN rfl (hr'.eq ▸ PO.conv hx h1 h2)
theorem eLenS [hF : WideLike F] {d : Tmp} {x : Operand} {n o len cap : Nat} {t el : TypeId} {rt : TypeId} {pos : String} {af : Array Edge} {g : Option (Nat × Bool)} {gk : List Key}
    (hr : RX c F nn id ops draw Q σ0 (i + 1) rest (upd σ [(.t d, .v (.c (.v (.int .i64 len))))]) (⟨orR gk (kr (.l n :: opk x)), [(.t d, .v (.c (.v (.int .i64 len))))]⟩ :: tr) sup)
    (hG : autoParam (GOk ops σ g gk) aGOK._auto_1) (hx : opv σ x = some (.c (.s n o len cap)) := by rfl) (ha : σ (.l n) = some (.l true) := by rfl) (hu : c.P.underlying t = some (.slice el) := by rfl) (hN : dOk c.N (some d) = true := by rfl) :
    RX c F nn id ops draw Q σ0 i (⟨some d, .call ⟨.builtin .len, #[x], #[t]⟩, rt, pos, af, g⟩ :: rest) σ tr sup := RX_po hF hr hG hN rfl (PO.lenS hx ha hu)
theorem eLenG [hF : WideLike F] {d : Tmp} {x : Operand} {n o len lb z : Nat} {t el : TypeId} {rt : TypeId} {pos : String} {af : Array Edge} {g : Option (Nat × Bool)} {gk : List Key}
    (hr : RX c F nn id ops draw Q σ0 (i + 1) rest (upd σ [(.t d, .v (.c (.v (.int .i64 len))))]) (⟨orR gk (kr (.l n :: opk x)), [(.t d, .v (.c (.v (.int .i64 len))))]⟩ :: tr) sup)
    (hG : autoParam (GOk ops σ g gk) aGOK._auto_1) (hx : opv σ x = some (.c (.g n o len lb z)) := by rfl) (ha : σ (.l n) = some (.l true) := by rfl) (hu : c.P.underlying t = some (.slice el) := by rfl) (hN : dOk c.N (some d) = true := by rfl) :
    RX c F nn id ops draw Q σ0 i (⟨some d, .call ⟨.builtin .len, #[x], #[t]⟩, rt, pos, af, g⟩ :: rest) σ tr sup := RX_po hF hr hG hN rfl (PO.lenG hx ha hu)
theorem eLenN [hF : WideLike F] {d : Tmp} {x : Operand} {n cap : Nat} {p : Option Addr} {t el : TypeId} {rt : TypeId} {pos : String} {af : Array Edge} {g : Option (Nat × Bool)} {gk : List Key}
    (hr : RX c F nn id ops draw Q σ0 (i + 1) rest (upd σ [(.t d, .v (.c (.v (.int .i64 n))))]) (⟨orR gk (kr (opk x)), [(.t d, .v (.c (.v (.int .i64 n))))]⟩ :: tr) sup)
    (hG : autoParam (GOk ops σ g gk) aGOK._auto_1) (hx : opv σ x = some (.c (.v (.slice p n cap))) := by rfl) (hu : c.P.underlying t = some (.slice el) := by rfl) (hN : dOk c.N (some d) = true := by rfl) :
    RX c F nn id ops draw Q σ0 i (⟨some d, .call ⟨.builtin .len, #[x], #[t]⟩, rt, pos, af, g⟩ :: rest) σ tr sup := RX_po hF hr hG hN rfl (PO.lenN hx hu)
/-- The least, the greatest one. -/
inductive MB where
  | min
  | max
def mmL : MB → List Value → Option Value
  | .min, L => minL L
  | .max, L => maxL L
structure Mm (b : MB) (L : List Value) (k : IntKind) (r : Int) : Prop where
  eq : mmL b L = some (.int k r)
theorem Mm.min2l {k : IntKind} {a b : Int} (h : a ≤ b) : Mm .min [.int k a, .int k b] k a := ⟨by simp only [mmL, minL, minR]; rw [if_neg (by omega)]⟩
theorem eMin [hF : WideLike F] {d : Tmp} {xs : List Operand} {L : List Value} {ks : List Key} {ty : Array TypeId} {k : IntKind} {r : Int} {rt : TypeId} {pos : String} {af : Array Edge} {g : Option (Nat × Bool)} {gk : List Key}
    (hr : RX c F nn id ops draw Q σ0 (i + 1) rest (upd σ [(.t d, .v (.c (.v (.int k r))))]) (⟨orR gk (kr (ks)), [(.t d, .v (.c (.v (.int k r))))]⟩ :: tr) sup)
    (hG : autoParam (GOk ops σ g gk) aGOK._auto_1) {vs : List V} (hv : autoParam (Vals σ xs vs ks) aVALS._auto_1) (hp : autoParam (LfV vs L) aLFV._auto_1) (hr' : autoParam (Mm .min L k r) aMM._auto_1) (hN : dOk c.N (some d) = true := by rfl) :
    RX c F nn id ops draw Q σ0 i (⟨some d, .call ⟨.builtin .min, xs.toArray, ty⟩, rt, pos, af, g⟩ :: rest) σ tr sup := RX_po hF hr hG hN rfl (PO.mins (hp.eq ▸ hv) hr'.eq)
theorem eAlloc [hF : WideLike F] {d : Tmp} {n : Nat} {t : TypeId} {zs : List Value} {l : List C} {rt : TypeId} {pos : String} {af : Array Edge} {g : Option (Nat × Bool)} {gk : List Key}
    (hr : RX c F nn id ops draw Q σ0 (i + 1) rest (upd σ ((.t d, .v (.c (.p n 0))) :: (.l n, .l true) :: (.b n, .b (.m true l)) :: [])) (⟨orR gk (kr [.l n]), (.t d, .v (.c (.p n 0))) :: (.l n, .l true) :: (.b n, .b (.m true l)) :: []⟩ :: tr) sup)
    (hG : autoParam (GOk ops σ g gk) aGOK._auto_1) (hz : zeroC c.P t = some zs := by rfl) (hl : autoParam (Is (zs.map C.v) l) aNRM._auto_1) (hm : autoParam (¬ c.gv n) aGVN._auto_1) (hn : σ (.l n) = none := by rfl) (hN : dOk c.N (some d) = true := by rfl) :
    RX c F nn id ops draw Q σ0 i (⟨some d, .alloc t, rt, pos, af, g⟩ :: rest) σ tr (n :: sup) := RX_o (t := ⟨kr [.l n], (.t d, .v (.c (.p n 0))) :: (.l n, .l true) :: (.b n, .b (.m true l)) :: []⟩) hr hG (hl.eq ▸ LocalO.alloc hF hN hz hm hn)
theorem eBox [hF : WideLike F] {d : Tmp} {n : Nat} {t : TypeId} {x : Operand} {v : V} {l : List C} {ks : List Key} {rt : TypeId} {pos : String} {af : Array Edge} {g : Option (Nat × Bool)} {gk : List Key}
    (hr : RX c F nn id ops draw Q σ0 (i + 1) rest (upd σ ((.t d, .v (.c (.p n 0))) :: (.l n, .l true) :: (.b n, .b (.m true l)) :: [])) (⟨orR gk (kr (.l n :: (ks ++ opk x))), (.t d, .v (.c (.p n 0))) :: (.l n, .l true) :: (.b n, .b (.m true l)) :: []⟩ :: tr) sup)
    (hG : autoParam (GOk ops σ g gk) aGOK._auto_1) (hx : opv σ x = some (v) := by rfl) (hl : autoParam (CV σ v l ks) aCV._auto_1) (hm : autoParam (¬ c.gv n) aGVN._auto_1) (hn : σ (.l n) = none := by rfl) (hN : dOk c.N (some d) = true := by rfl) :
    RX c F nn id ops draw Q σ0 i (⟨some d, .box t x, rt, pos, af, g⟩ :: rest) σ tr (n :: sup) := RX_o (t := ⟨kr (.l n :: (ks ++ opk x)), (.t d, .v (.c (.p n 0))) :: (.l n, .l true) :: (.b n, .b (.m true l)) :: []⟩) hr hG (LocalO.box hF hN hx hl hm hn)
theorem eLoad1 [hF : WideLike F] {d : Tmp} {n o : Nat} {t : TypeId} {x : Operand} {b : B} {own : Bool} {l : List C} {z : C} {rt : TypeId} {pos : String} {af : Array Edge} {g : Option (Nat × Bool)} {gk : List Key}
    (hr : RX c F nn id ops draw Q σ0 (i + 1) rest (upd σ ([(.t d, .v (.c z))])) (⟨orR gk (kr (.l n :: .b n :: opk x)), [(.t d, .v (.c z))]⟩ :: tr) sup)
    (hG : autoParam (GOk ops σ g gk) aGOK._auto_1) (hx : opv σ x = some (.c (.p n o)) := by rfl) (ha : σ (.l n) = some (.l true) := by rfl) (hb : σ (.b n) = some (.b b) := by rfl) (hl : b.cellsC = some (own, l) := by rfl) (ht : tRow c.P t = some false := by rfl) (hz : autoParam (l[o]? = some z) aGET._auto_1) (hN : dOk c.N (some d) = true := by rfl) :
    RX c F nn id ops draw Q σ0 i (⟨some d, .load t x, rt, pos, af, g⟩ :: rest) σ tr sup := RX_o (t := ⟨kr (.l n :: .b n :: opk x), [(.t d, .v (.c z))]⟩) hr hG (LocalO.load1 hF hN hx ha hb hl ht hz)
theorem eLoadA [hF : WideLike F] {d : Tmp} {n o k : Nat} {t : TypeId} {x : Operand} {b : B} {own : Bool} {l r : List C} {rt : TypeId} {pos : String} {af : Array Edge} {g : Option (Nat × Bool)} {gk : List Key}
    (hr : RX c F nn id ops draw Q σ0 (i + 1) rest (upd σ ([(.t d, .v (.a r))])) (⟨orR gk (kr (.l n :: .b n :: opk x)), [(.t d, .v (.a r))]⟩ :: tr) sup)
    (hG : autoParam (GOk ops σ g gk) aGOK._auto_1) (hx : opv σ x = some (.c (.p n o)) := by rfl) (ha : σ (.l n) = some (.l true) := by rfl) (hb : σ (.b n) = some (.b b) := by rfl) (hl : b.cellsC = some (own, l) := by rfl) (ht : tRow c.P t = some true := by rfl) (hk : tS c.P t = some k := by rfl) (hle : autoParam (o + k ≤ l.length) aLEN._auto_1) (hr' : autoParam (Is ((l.drop o).take k) r) aCUT._auto_1) (hN : dOk c.N (some d) = true := by rfl) :
    RX c F nn id ops draw Q σ0 i (⟨some d, .load t x, rt, pos, af, g⟩ :: rest) σ tr sup := RX_o (t := ⟨kr (.l n :: .b n :: opk x), [(.t d, .v (.a r))]⟩) hr hG (hr'.eq ▸ LocalO.loadA hF hN hx ha hb hl ht hk hle)
theorem eStore [hF : WideLike F] {n o k : Nat} {t : TypeId} {x y : Operand} {v : V} {b : B} {l vs l' : List C} {ks : List Key} {rt : TypeId} {pos : String} {af : Array Edge} {g : Option (Nat × Bool)} {gk : List Key}
    (hr : RX c F nn id ops draw Q σ0 (i + 1) rest (upd σ ([(.b n, .b (.m true l'))])) (⟨orR gk (kr (.l n :: .b n :: (ks ++ (opk x ++ opk y)))), [(.b n, .b (.m true l'))]⟩ :: tr) sup)
    (hG : autoParam (GOk ops σ g gk) aGOK._auto_1) (hx : opv σ x = some (.c (.p n o)) := by rfl) (ha : σ (.l n) = some (.l true) := by rfl) (hb : σ (.b n) = some (.b b) := by rfl) (hl : b.cellsC = some (true, l) := by rfl) (hy : opv σ y = some (v) := by rfl) (hv : autoParam (CV σ v vs ks) aCV._auto_1) (hk : tS c.P t = some k := by rfl) (hvk : autoParam (vs.length = k) aLEN._auto_1) (hle : autoParam (o + k ≤ l.length) aLEN._auto_1) (h0 : autoParam (vs ≠ []) aNE._auto_1) (hl' : autoParam (Is (putL o vs l) l') aPUT._auto_1) :
    RX c F nn id ops draw Q σ0 i (⟨none, .store t x y, rt, pos, af, g⟩ :: rest) σ tr sup := RX_o (t := ⟨kr (.l n :: .b n :: (ks ++ (opk x ++ opk y))), [(.b n, .b (.m true l'))]⟩) hr hG (LocalO.store hF hx ha hb hl hy hv (hvk ▸ hk) (hvk ▸ hle) h0 (by rw [hl'.eq]; rfl))
theorem eBuild [hF : WideLike F] {d : Tmp} {t : TypeId} {zs : List Value} {place : Nat → Option (Nat × Nat)} {ps : List (Nat × Operand)} {r : List (Nat × List C)} {ks : List Key} {out l : List C} {rt : TypeId} {pos : String} {af : Array Edge} {g : Option (Nat × Bool)} {gk : List Key}
    (hr : RX c F nn id ops draw Q σ0 (i + 1) rest (upd σ ([(.t d, .v (.a l))])) (⟨orR gk (kr ks), [(.t d, .v (.a l))]⟩ :: tr) sup)
    (hG : autoParam (GOk ops σ g gk) aGOK._auto_1) (hb : buildC c.P t = some (zs, place) := by rfl) (hp : autoParam (Parts σ ps r ks) aPARTS._auto_1) (hf : autoParam (fillC place (zs.map C.v) r = some out) aFILL._auto_1) (hl : autoParam (Is out l) aNRM._auto_1) (hN : dOk c.N (some d) = true := by rfl) :
    RX c F nn id ops draw Q σ0 i (⟨some d, .build t ps.toArray, rt, pos, af, g⟩ :: rest) σ tr sup := RX_o (t := ⟨kr ks, [(.t d, .v (.a l))]⟩) hr hG (hl.eq ▸ LocalO.build hF hN hb hp hf)
theorem eBuildSlice [hF : WideLike F] {d : Tmp} {n len k : Nat} {t el : TypeId} {zs : List Value} {ps : List (Nat × Operand)} {r : List (Nat × List C)} {ks : List Key} {out l : List C} {rt : TypeId} {pos : String} {af : Array Edge} {g : Option (Nat × Bool)} {gk : List Key}
    (hr : RX c F nn id ops draw Q σ0 (i + 1) rest (upd σ ((.t d, .v (.c (.s n 0 len len))) :: (.l n, .l true) :: (.b n, .b (.m true l)) :: [])) (⟨orR gk (kr (.l n :: ks)), (.t d, .v (.c (.s n 0 len len))) :: (.l n, .l true) :: (.b n, .b (.m true l)) :: []⟩ :: tr) sup)
    (hG : autoParam (GOk ops σ g gk) aGOK._auto_1) (ht : c.P.underlying t = some (.slice el) := by rfl) (hz : zeroC c.P el = some zs := by rfl) (hk : tS c.P el = some k := by rfl) (hzk : zs.length = k := by rfl) (h0 : autoParam (k ≠ 0) aNE._auto_1) (hle : autoParam (len * k ≤ 16777216) aLEN._auto_1) (hp : autoParam (Parts σ ps r ks) aPARTS._auto_1) (hf : autoParam (fillC (fun i => some (i * k, k)) ((timesL zs len).map C.v) r = some out) aFILL._auto_1) (hl : autoParam (Is out l) aNRM._auto_1) (hm : autoParam (¬ c.gv n) aGVN._auto_1) (hn : σ (.l n) = none := by rfl) (hN : dOk c.N (some d) = true := by rfl) :
    RX c F nn id ops draw Q σ0 i (⟨some d, .buildSlice t len ps.toArray, rt, pos, af, g⟩ :: rest) σ tr (n :: sup) := RX_o (t := ⟨kr (.l n :: ks), (.t d, .v (.c (.s n 0 len len))) :: (.l n, .l true) :: (.b n, .b (.m true l)) :: []⟩) hr hG (hl.eq ▸ LocalO.buildSlice hF hN ht hz hk hzk h0 hle hp hf hm hn)
theorem eMakeSlice [hF : WideLike F] {d : Tmp} {n k by' len cap : Nat} {li ci : Int} {ki kj : IntKind} {t el : TypeId} {zs Z : List Value} {x y : Operand} {rt : TypeId} {pos : String} {af : Array Edge} {g : Option (Nat × Bool)} {gk : List Key}
    (hr : RX c F nn id ops draw Q σ0 (i + 1) rest (upd σ ((.t d, .v (.c (.s n 0 len cap))) :: (.l n, .l true) :: (.b n, .b (.w true Z)) :: [])) (⟨orR gk (kr (.l n :: (opk x ++ opk y))), (.t d, .v (.c (.s n 0 len cap))) :: (.l n, .l true) :: (.b n, .b (.w true Z)) :: []⟩ :: tr) sup)
    (hG : autoParam (GOk ops σ g gk) aGOK._auto_1) (hx : opv σ x = some (.c (.v (.int ki li))) := by rfl) (hy : opv σ y = some (.c (.v (.int kj ci))) := by rfl) (ht : c.P.underlying t = some (.slice el) := by rfl) (hz : zeroC c.P el = some zs := by rfl) (hk : tS c.P el = some k := by rfl) (hzk : zs.length = k := by rfl) (h0 : autoParam (k ≠ 0) aNE._auto_1) (hby : (c.P.info? el).map (·.bytes) = some by' := by rfl) (h1 : autoParam (0 ≤ li ∧ li ≤ ci ∧ ci ≤ 281474976710656 ∧ by' * ci ≤ 281474976710656) aBND._auto_1) (e1 : autoParam (Is li.toNat len) aOFF._auto_1) (e2 : autoParam (Is ci.toNat cap) aOFF._auto_1) (e3 : autoParam (Is (timesL zs cap) Z) aTIMES._auto_1) (hm : autoParam (¬ c.gv n) aGVN._auto_1) (hn : σ (.l n) = none := by rfl) (hN : dOk c.N (some d) = true := by rfl) :
    RX c F nn id ops draw Q σ0 i (⟨some d, .makeSlice t x y, rt, pos, af, g⟩ :: rest) σ tr (n :: sup) := RX_o (t := ⟨kr (.l n :: (opk x ++ opk y)), (.t d, .v (.c (.s n 0 len cap))) :: (.l n, .l true) :: (.b n, .b (.w true Z)) :: []⟩) hr hG (e1.eq ▸ e3.eq ▸ e2.eq ▸ LocalO.makeSlice hF hN hx hy ht hz hk hzk h0 hby h1 hm hn)
theorem eCopyS [hF : WideLike F] {d : Tmp} {m o len cap k n z : Nat} {x y : Operand} {t t2 el : TypeId} {b : B} {l vs l' : List C} {ks : List Key} {rt : TypeId} {pos : String} {af : Array Edge} {g : Option (Nat × Bool)} {gk : List Key}
    (hr : RX c F nn id ops draw Q σ0 (i + 1) rest (upd σ ((.t d, .v (.c (.v (.int .i64 n)))) :: (.b m, .b (.m true l')) :: [])) (⟨orR gk (kr (.l m :: .b m :: (ks ++ opk x))), (.t d, .v (.c (.v (.int .i64 n)))) :: (.b m, .b (.m true l')) :: []⟩ :: tr) sup)
    (hG : autoParam (GOk ops σ g gk) aGOK._auto_1) (hx : opv σ x = some (.c (.s m o len cap)) := by rfl) (ha : σ (.l m) = some (.l true) := by rfl) (hb : σ (.b m) = some (.b b) := by rfl) (hl : b.cellsC = some (true, l) := by rfl) (ht : c.P.underlying t = some (.slice el) := by rfl) (hz : tS c.P el = some z := by rfl) (hs : autoParam (SrcN c σ y k n z vs ks) aSRCN._auto_1) (hn : autoParam (Nat.min k len = n) aLEN._auto_1) (hvl : autoParam (vs.length = n * z) aLEN._auto_1) (hle : autoParam (o + n * z ≤ l.length) aLEN._auto_1) (e2 : autoParam (Is (putL o vs l) l') aPUT._auto_1) (hN : dOk c.N (some d) = true := by rfl) :
    RX c F nn id ops draw Q σ0 i (⟨some d, .call ⟨.builtin .copy, #[x, y], #[t, t2]⟩, rt, pos, af, g⟩ :: rest) σ tr sup := RX_o (t := ⟨kr (.l m :: .b m :: (ks ++ opk x)), (.t d, .v (.c (.v (.int .i64 n)))) :: (.b m, .b (.m true l')) :: []⟩) hr hG (LocalO.copy hF hN hx (.inl ⟨_, rfl⟩) ha hb hl hn hs hvl hle ht hz (by rw [e2.eq]; rfl))
theorem eTextG [hF : WideLike F] {d : Tmp} {n o len : Nat} {lb z : Nat} {x : Operand} {src dst el : TypeId} {b : B} {own : Bool} {l : List C} {bs : List UInt8} {rt : TypeId} {pos : String} {af : Array Edge} {g : Option (Nat × Bool)} {gk : List Key}
    (hr : RX c F nn id ops draw Q σ0 (i + 1) rest (upd σ ([(.t d, .v (.c (.v (.string ⟨bs.toArray⟩))))])) (⟨orR gk (kr (.l n :: .b n :: opk x)), [(.t d, .v (.c (.v (.string ⟨bs.toArray⟩))))]⟩ :: tr) sup)
    (hG : autoParam (GOk ops σ g gk) aGOK._auto_1) (hx : opv σ x = some (.c (.g n o len lb z)) := by rfl) (ha : σ (.l n) = some (.l true) := by rfl) (hb : σ (.b n) = some (.b b) := by rfl) (hl : b.cellsC = some (own, l) := by rfl) (h1 : c.P.underlying src = some (.slice el) := by rfl) (h2 : c.P.underlying el = some (.int .u8) := by rfl) (h3 : c.P.underlying dst = some .string := by rfl) (hle : autoParam (o + len ≤ l.length) aLEN._auto_1) (hbs : autoParam ((l.drop o).take len = (bs.map u8V).map C.v) aBYTES._auto_1) (hN : dOk c.N (some d) = true := by rfl) :
    RX c F nn id ops draw Q σ0 i (⟨some d, .convert src dst x, rt, pos, af, g⟩ :: rest) σ tr sup := RX_o (t := ⟨kr (.l n :: .b n :: opk x), [(.t d, .v (.c (.v (.string ⟨bs.toArray⟩))))]⟩) hr hG (LocalO.text hF hN hx (.inr ⟨_, _, rfl⟩) ha hb hl hle hbs h1 h2 h3)
theorem eSkipT {e : Tmp} {op : Op} {rt : TypeId} {pos : String} {af : Array Edge} {j d : Nat} {b : Bool} [hF : WideLike F]
    (hr : RX c F nn id ops draw Q σ0 (i + 1) rest (upd σ [(.t e, .v (.c (.v undef)))]) (⟨kr [.t d], [(.t e, .v (.c (.v undef)))]⟩ :: tr) sup)
    (hd : (ops[j]?).bind (·.dst) = some d := by rfl) (hv : σ (.t d) = some (.v (.c (.v (.bool b)))) := by rfl) (hb : autoParam (b = false) aTRU._auto_1) (hN : dOk c.N (some e) = true := by rfl) :
    RX c F nn id ops draw Q σ0 i (⟨some e, op, rt, pos, af, some (j, true)⟩ :: rest) σ tr sup := ⟨RW_step (t := ⟨kr [.t d], [(.t e, .v (.c (.v undef)))]⟩) (fun ho => LocalO.skipped hF (want := true) rfl hd hv (by rw [hb]; rfl) hN ho) hr.go⟩
theorem eSkipF {e : Tmp} {op : Op} {rt : TypeId} {pos : String} {af : Array Edge} {j d : Nat} {b : Bool} [hF : WideLike F]
    (hr : RX c F nn id ops draw Q σ0 (i + 1) rest (upd σ [(.t e, .v (.c (.v undef)))]) (⟨kr [.t d], [(.t e, .v (.c (.v undef)))]⟩ :: tr) sup)
    (hd : (ops[j]?).bind (·.dst) = some d := by rfl) (hv : σ (.t d) = some (.v (.c (.v (.bool b)))) := by rfl) (hb : autoParam (b = true) aTRU._auto_1) (hN : dOk c.N (some e) = true := by rfl) :
    RX c F nn id ops draw Q σ0 i (⟨some e, op, rt, pos, af, some (j, false)⟩ :: rest) σ tr sup := ⟨RW_step (t := ⟨kr [.t d], [(.t e, .v (.c (.v undef)))]⟩) (fun ho => LocalO.skipped hF (want := false) rfl hd hv (by rw [hb]; rfl) hN ho) hr.go⟩
/-- A guard, a choice, whose truth is not known: both ways. -/
theorem eGuard {o : Oper} {j d : Nat} {want b : Bool} {ph qh : Prop} (h1 : b = true → ph → RX c F nn id ops draw Q σ0 i (o :: rest) σ tr sup) (h2 : b = false → qh → RX c F nn id ops draw Q σ0 i (o :: rest) σ tr sup)
    (hg : o.guard = some (j, want) := by rfl) (hd : (ops[j]?).bind (·.dst) = some d := by rfl) (hv : σ (.t d) = some (.v (.c (.v (.bool b)))) := by rfl) (ho : autoParam (Opn b) aOPN._auto_1) (hp : Yes b ph := by exact inferInstance) (hq : No b qh := by exact inferInstance) : RX c F nn id ops draw Q σ0 i (o :: rest) σ tr sup := by
  cases b <;> first | exact h1 rfl (hp.go rfl) | exact h2 rfl (hq.go rfl)
class FOk (F : Fence) : Prop where
  w : WideLike F
  room : ∀ k, F.room k
theorem eEnd (hK : KX c (Q .normal) σ sup) : RX c F nn id ops false Q σ0 i [] σ tr sup := ⟨RW_end hK.go⟩
theorem eDraw [hF : FOk F] (hK : KX c (Q .normal) σ sup) (hm : c.P.follows .mixedOrders = true := by rfl) (ho : ordB ops tr.reverse = true := by kernel_rfl) : RX c F nn id ops true Q σ0 i [] σ tr sup := ⟨RW_end_draw hF.room hm ho hK.go⟩
theorem eReg {l : List Oper} (h : RX c F nn id l.toArray draw Q σ 0 l σ [] sup) : CX c F nn (.region id l.toArray draw) Q σ sup := ⟨CW_region (by simp) h.go⟩
theorem eSeq {x y : Code} (h : CX c F nn x (Exit.then (y.wpIn F nn c.P Q) Q) σ sup) : CX c F nn (.seq x y) Q σ sup := ⟨CW_seq h.go⟩
theorem eThen {y : Code} (h : CX c F nn y Q σ sup) : KX c (Exit.then (y.wpIn F nn c.P Q) Q .normal) σ sup := ⟨⟨h.go.go⟩⟩
theorem eThenRet {K : Act → World → Prop} (h : KX c (Q .ret) σ sup) : KX c (Exit.then K Q .ret) σ sup := ⟨⟨h.go.go⟩⟩
theorem eThenExit {K : Act → World → Prop} {k : Nat} (h : KX c (Q (.exit k)) σ sup) : KX c (Exit.then K Q (.exit k)) σ sup := ⟨⟨h.go.go⟩⟩
theorem eSkip (h : KX c (Q .normal) σ sup) : CX c F nn .skip Q σ sup := ⟨CW_skip h.go⟩
theorem eLabel {l : Nat} (h : KX c (Q .normal) σ sup) : CX c F nn (.label l) Q σ sup := ⟨CW_label h.go⟩
theorem eRet (h : KX c (Q .ret) σ sup) : CX c F nn .ret Q σ sup := ⟨CW_ret h.go⟩
theorem eExit {k : Nat} (h : KX c (Q (.exit k)) σ sup) : CX c F nn (.exit k) Q σ sup := ⟨CW_exit h.go⟩
theorem eBlock {k : Nat} {x : Code} (h : CX c F nn x (Exit.inBlock k Q) σ sup) : CX c F nn (.block k x) Q σ sup := ⟨CW_block h.go⟩
theorem eScope {x : Code} (h : CX c F nn x (Exit.noGoto Q) σ sup) : CX c F nn (.scope x) Q σ sup := ⟨CW_scope h.go⟩
theorem eNoGoto {x : Exit} (hx : ∀ l, x ≠ .goto l) (h : KX c (Q x) σ sup) : KX c (Exit.noGoto Q x) σ sup := ⟨⟨fun e a w hR => by
  cases x with
  | goto l => exact absurd rfl (hx l)
  | _ => exact h.go.go e a w hR⟩⟩
theorem eNoGotoR (h : KX c (Q .ret) σ sup) : KX c (Exit.noGoto Q .ret) σ sup := eNoGoto (fun l h => by cases h) h
theorem eBlkN {k : Nat} (h : KX c (Q .normal) σ sup) : KX c (Exit.inBlock k Q .normal) σ sup := ⟨⟨h.go.go⟩⟩
theorem eBlkR {k : Nat} (h : KX c (Q .ret) σ sup) : KX c (Exit.inBlock k Q .ret) σ sup := ⟨⟨h.go.go⟩⟩
theorem eBlkX {k : Nat} (h : KX c (Q .normal) σ sup) : KX c (Exit.inBlock k Q (.exit k)) σ sup := ⟨⟨fun e a w hR => by simpa [Exit.inBlock] using h.go.go e a w hR⟩⟩
theorem eBlkP {k j : Nat} (h : KX c (Q (.exit j)) σ sup) (hk : Nat.beq j k = false := by with_unfolding_all rfl) : KX c (Exit.inBlock k Q (.exit j)) σ sup := ⟨⟨fun e a w hR => by
  have hne : j ≠ k := fun e => by subst e; simp at hk
  simpa [Exit.inBlock, hne] using h.go.go e a w hR⟩⟩
theorem eYes {x : Operand} {p q : Code} {b : Bool} (h1 : CX c F nn p Q σ sup) (hx : opv σ x = some (.c (.v (.bool b))) := by rfl) (hb : autoParam (b = true) aTRU._auto_1) : CX c F nn (.cond x p q) Q σ sup := ⟨CW_yes (hb ▸ hx) h1.go⟩
theorem eNo {x : Operand} {p q : Code} {b : Bool} (h1 : CX c F nn q Q σ sup) (hx : opv σ x = some (.c (.v (.bool b))) := by rfl) (hb : autoParam (b = false) aTRU._auto_1) : CX c F nn (.cond x p q) Q σ sup := ⟨CW_no (hb ▸ hx) h1.go⟩
theorem eCond {x : Operand} {p q : Code} {b : Bool} {ph qh : Prop} (h1 : b = true → ph → CX c F nn p Q σ sup) (h2 : b = false → qh → CX c F nn q Q σ sup) (hx : opv σ x = some (.c (.v (.bool b))) := by rfl) (ho : autoParam (Opn b) aOPN._auto_1) (hp : Yes b ph := by exact inferInstance) (hq : No b qh := by exact inferInstance) : CX c F nn (.cond x p q) Q σ sup := ⟨CW_cond hx (fun h => (h1 h (hp.go h)).go) (fun h => (h2 h (hq.go h)).go)⟩
theorem eUnroll {x : Code} (m : Nat) (h : KX c (Code.roundsIn F nn c.P x Q m) σ sup) : CX c F nn (.loop x) Q σ sup := ⟨CW_rounds m h.go⟩
theorem eRound {x : Code} {m : Nat} (h : CX c F nn x (Exit.then (Code.roundsIn F nn c.P x Q m) Q) σ sup) : KX c (Code.roundsIn F nn c.P x Q (m + 1)) σ sup := ⟨KW_round h.go⟩
theorem eNext {x : Code} {m : Nat} (h : KX c (Code.roundsIn F nn c.P x Q m) σ sup) : KX c (Exit.then (Code.roundsIn F nn c.P x Q m) Q .normal) σ sup := ⟨⟨h.go.go⟩⟩
end
end Go.Proofs.Ytnmkpekfkfckoaa.EW
namespace Go.Proofs.Ytnmkpekfkfckoaa.EW
set_option linter.unusedSimpArgs false
set_option linter.unusedVariables false
open Go.RowKit EV
open SX (Wr Tv Qu Rm Sh Is)
instance fok_wide' : EW.FOk Fence.wide := ⟨EV.wide_like, fun _ d h => by simp [Fence.wide] at h⟩
instance fok_round' (l : Nat) : EW.FOk (Fence.wide.inRound l) := ⟨EV.round_like l, fun k d h => by simp [Fence.wide] at h⟩
inductive PlL : List C → List Value → Prop
  | nil : PlL [] []
  | cons {x : Value} {l : List C} {L : List Value} : PlL l L → PlL (.v x :: l) (x :: L)
theorem PlL.map : ∀ (L : List Value), PlL (L.map C.v) L
  | [] => .nil
  | _ :: L => .cons (PlL.map L)
theorem PlL.eq : ∀ {l : List C} {L : List Value}, PlL l L → l = L.map C.v
  | _, _, .nil => rfl
  | _, _, .cons h => by rw [h.eq]; rfl
inductive PlT : List (C ⊕ List C) → List Value → Prop
  | nil : PlT [] []
  | one {x : Value} {l : List (C ⊕ List C)} {L : List Value} : PlT l L → PlT (.inl (.v x) :: l) (x :: L)
  | row {r : List C} {R : List Value} {l : List (C ⊕ List C)} {L : List Value} : PlL r R → PlT l L → PlT (.inr r :: l) (.agg R.toArray :: L)
inductive PlV : V → Value → Prop
  | c {x : Value} : PlV (.c (.v x)) x
  | a {l : List C} {L : List Value} : PlL l L → PlV (.a l) (.agg L.toArray)
  | t {l : List (C ⊕ List C)} {L : List Value} : PlT l L → PlV (.t l) (.tuple L.toArray)
inductive PlVs : List V → List Value → Prop
  | nil : PlVs [] []
  | cons {v : V} {x : Value} {l : List V} {L : List Value} : PlV v x → PlVs l L → PlVs (v :: l) (x :: L)
/-- Every cell of it is one. -/
def oneV : V → Bool
  | .c _ => true
  | .a l => l.all fun x => match x with | .v y => y.oneCell' | _ => false
  | .t l => l.all fun x => match x with | .inl _ => true | .inr r => r.all fun x => match x with | .v y => y.oneCell' | _ => false
theorem all_nums (k : IntKind) : ∀ (l : List Int), (((nums k l).map C.v).all fun x => match x with | .v y => y.oneCell' | _ => false) = true
  | [] => rfl
  | x :: l => by
    have := all_nums k l
    simp only [nums, List.map_cons, List.all_cons] at this ⊢
    rw [this]; rfl
section
variable {s : Sf} {e : Env}
theorem PlL.okl {l : List C} {L : List Value} (h : PlL l L) (h1 : (l.all fun x => match x with | .v y => y.oneCell' | _ => false) = true) : OkL s e l L := by
  rw [h.eq] at h1 ⊢
  exact OkL.plain L (by simpa [List.all_map, Function.comp_def] using h1)
theorem PlL.uniq {l : List C} {L us : List Value} (h : PlL l L) (k : OkL s e l us) : us = L := by rw [h.eq] at k; exact k.eq
theorem PlT.uniq : ∀ {l : List (C ⊕ List C)} {L us : List Value}, PlT l L → OkT s e l us → us = L
  | _, _, _, .nil, h => h
  | _, _, _, .one h, ⟨u, r, hu, h1, h2⟩ => by rw [hu, h.uniq h2, Ok.plain h1]
  | _, _, _, .row hr h, ⟨u, r, hu, ⟨us, h1, h3⟩, h2⟩ => by rw [hu, h.uniq h2, h1, hr.uniq h3]
theorem PlT.okt : ∀ {l : List (C ⊕ List C)} {L : List Value}, PlT l L → oneV (.t l) = true → OkT s e l L
  | _, _, .nil, _ => rfl
  | _, _, .one h, h1 => ⟨_, _, rfl, Ok.of, h.okt (by simpa [oneV] using h1)⟩
  | _, _, .row hr h, h1 => by
    simp only [oneV, List.all_cons, Bool.and_eq_true] at h1
    exact ⟨_, _, rfl, ⟨_, rfl, hr.okl h1.1⟩, h.okt h1.2⟩
theorem PlV.uniq {v : V} {x u : Value} (h : PlV v x) (k : OkV s e v u) : u = x := by
  cases h with
  | c => exact Ok.plain k
  | a h => obtain ⟨us, h1, h2⟩ := k; rw [h1, h.uniq h2]
  | t h => obtain ⟨us, h1, h2⟩ := k; rw [h1, h.uniq h2]
theorem PlV.ok {v : V} {x : Value} (h : PlV v x) (h1 : oneV v = true) : OkV s e v x := by
  cases h with
  | c => exact Ok.of
  | a h => exact ⟨_, rfl, h.okl h1⟩
  | t h => exact ⟨_, rfl, h.okt h1⟩
theorem PlL.names {l : List C} {L : List Value} (h : PlL l L) : l.flatMap C.names = [] := by rw [h.eq]; exact plain_names L
theorem PlT.names : ∀ {l : List (C ⊕ List C)} {L : List Value}, PlT l L → l.flatMap namesP = []
  | _, _, .nil => rfl
  | _, _, .one h => by simp [List.flatMap_cons, namesP, C.names, h.names]
  | _, _, .row hr h => by rw [List.flatMap_cons, h.names]; show (List.flatMap C.names _) ++ [] = []; rw [hr.names]; rfl
theorem PlV.names {v : V} {x : Value} (h : PlV v x) : v.names = [] := by
  cases h with
  | c => rfl
  | a h => exact h.names
  | t h => exact h.names
theorem PlVs.oks : ∀ {vs : List V} {L : List Value}, PlVs vs L → vs.all oneV = true → OkVs s e vs L
  | _, _, .nil, _ => rfl
  | _, _, .cons h hs, h1 => by
    simp only [List.all_cons, Bool.and_eq_true] at h1
    exact ⟨_, _, rfl, h.ok h1.1, hs.oks h1.2⟩
theorem PlVs.uniq : ∀ {vs : List V} {L us : List Value}, PlVs vs L → OkVs s e vs us → us = L
  | _, _, _, .nil, h => h
  | _, _, _, .cons h hs, ⟨u, r, hu, h1, h2⟩ => by rw [hu, hs.uniq h2, h.uniq h1]
theorem PlVs.names : ∀ {vs : List V} {L : List Value}, PlVs vs L → ∀ v ∈ vs, v.names = []
  | _, _, .nil, v, hv => by cases hv
  | _, _, .cons h hs, v, hv => by
    rcases List.mem_cons.1 hv with rfl | hv
    · exact h.names
    · exact hs.names v hv
end
section
variable {c : Ctx} {F : Fence} {nn : Nat} {id : Nat} {ops : Array Oper} {draw : Bool} {Q : Exit → Act → World → Prop} {σ0 σ s : Sf} {e : Env} {a : Act} {w : World} {i : Nat} {rest : List Oper} {tr : List Tr} {sup : List Nat}
theorem Vals.evals {xs : List Operand} {vs : List V} {ks : List Key} (h : Vals σ xs vs ks) (hag : ∀ q ∈ ks, s q = σ q) (hR : Real c s e a w) : OkVs s e vs (xs.map a.eval) := by
  induction h with
  | nil => rfl
  | @cons x v xs l ks hx h ih => exact ⟨_, _, rfl, (ev1 hx hag (fun q hq => by simp [hq]) hR).1, ih fun q hq => hag q (by simp [hq])⟩
/-- A call whose answer hangs on its arguments alone, and which leaves what was there. -/
theorem LocalO.callP (hF : WideLike F) {f : FuncId} {xs : List Operand} {tys : Array TypeId} {vs : List V} {L : List Value} {ks : List Key} {v : V} {R : Value} {d : Option Tmp} {rt : TypeId} {pos : String} {af : Array Edge} {g : Option (Nat × Bool)}
    (he : ∀ args w, (callFunc f args).run c.P w = .ok (.enter f args) w) (hx : Vals σ xs vs ks) (hl : PlVs vs L) (hc : ∀ w, Calls c.P f L.toArray w fun e w' => e = .returned R ∧ Below w.heap.size w w') (hv : PlV v R) (h1 : oneV v = true) (hN : dOk c.N d = true) :
    LocalO c F nn ⟨d, .call ⟨.value (.func f), xs.toArray, tys⟩, rt, pos, af, g⟩ σ ⟨kr ks, putW d v⟩ := by
  intro hcl Q s e a w K hag hR hK
  have ee := hl.uniq (Vals.evals hx (fun q hq => hag q (kr_iff.2 hq)) hR)
  refine ⟨fun f _ => hF.fn f, ?_⟩
  rw [Oper.semAt_eq _ _ _ (noDefer rfl)]
  simp only [execOp, resolve, invoke, Deferred.ofValue, List.map_toArray, ee, Sem.run_bind, Sem.run_pure, Result.andThen_ok, Act.eval]
  simp only [List.append_toArray, List.nil_append, List.append_nil, he, Oper.uponIn]
  refine ⟨fun h => absurd h (by rw [hF.depth]; simp), hF.calls ((hc w).mono ?_)⟩
  rintro e' w' ⟨rfl, hb⟩
  exact hK e _ _ ((hR.on hb).putW hN (hv.ok h1) (fun n hn => by rw [hv.names] at hn; cases hn))
theorem eCall {d : Tmp} {f : FuncId} {xs : List Operand} {tys : Array TypeId} {vs : List V} {L : List Value} {ks : List Key} {R : Value} {v : V} {rt : TypeId} {pos : String} {af : Array Edge} {g : Option (Nat × Bool)} {gk : List Key} [hF : WideLike F]
    (he : ∀ args w, (callFunc f args).run c.P w = .ok (.enter f args) w) (hc : ∀ w, Calls c.P f L.toArray w fun e w' => e = .returned R ∧ Below w.heap.size w w')
    (hr : RX c F nn id ops draw Q σ0 (i + 1) rest (upd σ [(.t d, .v v)]) (⟨orR gk (kr ks), [(.t d, .v v)]⟩ :: tr) sup)
    (hG : autoParam (GOk ops σ g gk) aGOK._auto_1) (hx : autoParam (Vals σ xs vs ks) aVALS._auto_1) (hl : autoParam (PlVs vs L) aPLVS._auto_1) (hv : autoParam (PlV v R) aPLV._auto_1) (h1 : autoParam (oneV v = true) aONE._auto_1) (hN : dOk c.N (some d) = true := by rfl) :
    RX c F nn id ops draw Q σ0 i (⟨some d, .call ⟨.value (.func f), xs.toArray, tys⟩, rt, pos, af, g⟩ :: rest) σ tr sup :=
  RX_o (t := ⟨kr ks, [(.t d, .v v)]⟩) hr hG (LocalO.callP hF he hx hl hc hv h1 hN)
def SubS (s σ : Sf) : Prop := ∀ q x, s q = some x → σ q = some x
theorem RealW.less (h : RealW c σ e w) (hs : SubS s σ) (hc : Cl s) : RealW c s e w :=
  ⟨fun n b h1 h2 => (h.blk n b (hs _ _ h1) (hs _ _ h2)).mono (fun m _ => ⟨fun hl => hs _ _ hl, .rfl⟩) .rfl (fun _ => rfl), fun n n' b b' h1 h2 h3 h4 => h.sep n n' b b' (hs _ _ h1) (hs _ _ h2) (hs _ _ h3) (hs _ _ h4), fun n b h1 h2 => h.own n b (hs _ _ h1) (hs _ _ h2), hc, h.given, h.os, h.tape, h.output, h.size, h.old⟩
theorem Real.less (h : Real c σ e a w) (hs : SubS s σ) (hc : Cl s) (hf : ∀ n ∈ c.fm, s (.l n) = some (.l true) ∧ s (.b n) = some (.b .df)) : Real c s e a w :=
  ⟨RealW.less h.W hs hc, h.defers, hf, h.slots, fun i v hx => by
    obtain ⟨u, h1, h2⟩ := h.tmp i v (hs _ _ hx)
    exact ⟨u, h1, h2.mono fun m _ => ⟨fun hl => hs _ _ hl, .rfl⟩⟩⟩
/-- Some keys forgotten. -/
def drp (T : Key → Bool) (σ : Sf) : Sf := fun q => bif T q then none else σ q
def inN : List Nat → Nat → Bool
  | [], _ => false
  | k :: l, n => bif Nat.ble 1000000 k then inN l n else bif Nat.blt n k then false else Nat.beq k n || inN l n
/-- Blocks, told ahead of the slots, a million on. -/
def inB : List Nat → Nat → Bool
  | [], _ => false
  | k :: l, n => bif Nat.ble 1000000 k then Nat.beq k (n + 1000000) || inB l n else false
theorem inB_mem {n : Nat} : ∀ {l : List Nat}, inB l n = true → n + 1000000 ∈ l
  | [], h => by cases h
  | k :: l, h => by
    simp only [inB] at h
    cases hk : Nat.ble 1000000 k with
    | false => rw [hk] at h; cases h
    | true =>
      rw [hk] at h
      simp only [cond_true, Bool.or_eq_true] at h
      rcases h with h | h
      · rw [Nat.eq_of_beq_eq_true h]; exact List.mem_cons_self
      · exact List.mem_cons_of_mem _ (inB_mem h)
/-- Slots, blocks that are told anew, and all names from one on. -/
def TT (ts : List Nat) (n0 : Nat) : Key → Bool
  | .t i => inN ts i && Nat.blt i 1000000
  | .b n => Nat.ble n0 n || inB ts n
  | .l n => Nat.ble n0 n
/-- No name from n0 on is used. -/
structure NL (n0 : Nat) (σ : Sf) : Prop where
  no : ∀ n, n0 ≤ n → σ (.l n) = none
theorem NL.emp {n0 : Nat} : NL n0 emp := ⟨fun _ _ => rfl⟩
def wsLt (n0 : Nat) (ws : Ws) : Bool := ws.all fun x => match x.1 with | .l n => Nat.blt n n0 | _ => true
theorem NL.upd {n0 : Nat} {ws : Ws} (h : NL n0 σ) (hw : wsLt n0 ws = true) : NL n0 (EV.upd σ ws) := ⟨fun n hn => by
  simp only [EV.upd, h.no n hn, Option.or_none]
  cases hl : lookW ws (.l n) with
  | none => rfl
  | some x =>
    have := List.all_eq_true.1 hw _ (look_mem hl)
    simp [Nat.blt_eq] at this; omega⟩
theorem NL.drp {n0 : Nat} {T : Key → Bool} (h : NL n0 σ) : NL n0 (EW.drp T σ) := ⟨fun n hn => by
  simp only [EW.drp, h.no n hn]; cases T (.l n) <;> rfl⟩
theorem NL.hp {n0 : Nat} (h : NL n0 σ) : NL n0 (EV.hp σ) := ⟨fun n hn => h.no n hn⟩
def subW (σ : Sf) : Ws → Prop
  | [] => True
  | (q, x) :: r => σ q = some x ∧ subW σ r
theorem subW.nil : subW σ [] := trivial
theorem subW.cons {q : Key} {x : KV} {r : Ws} (h : σ q = some x) (hr : subW σ r) : subW σ ((q, x) :: r) := ⟨h, hr⟩
theorem subW.conv {q : Key} {x y : KV} {r : Ws} (h : σ q = some y) (hr : subW σ r) (e : autoParam (y = x) aKVE._auto_1) : subW σ ((q, x) :: r) := ⟨e ▸ h, hr⟩
theorem kvI {k : IntKind} {a b : Int} (h : a = b) : KV.v (V.c (C.v (.int k a))) = KV.v (V.c (C.v (.int k b))) := by rw [h]
theorem kvW {o : Bool} {a b : List Value} (h : a = b) : KV.b (B.w o a) = KV.b (B.w o b) := by rw [h]
theorem kvG {n o l l' b b' z : Nat} (h1 : l = l') (h2 : b = b') : KV.v (V.c (C.g n o l b z)) = KV.v (V.c (C.g n o l' b' z)) := by rw [h1, h2]
theorem subW_of : ∀ {ws : Ws}, subW σ ws → ∀ q x, lookW ws q = some x → σ q = some x
  | [], _, q, x, h => by cases h
  | (k, y) :: r, hs, q, x, h => by
    simp only [lookW] at h
    cases hk : Key.beq k q with
    | true => rw [hk] at h; simp at h; subst h; rw [← (Key.beq_iff _ _).1 hk]; exact hs.1
    | false => rw [hk] at h; exact subW_of hs.2 q x h
/-- Beside W nothing of b has been turned. -/
structure Frm (b : Sf) (W : Ws) (σ : Sf) : Prop where
  ok : ∀ q, lookW W q = none → b q ≠ none → σ q = b q
theorem Frm.refl {b : Sf} {W : Ws} : Frm b W b := ⟨fun _ _ _ => rfl⟩
def frmB (b : Sf) (W : Ws) (ws : Ws) : Bool := ws.all fun x => (lookW W x.1).isSome || (b x.1).isNone
theorem Frm.upd {b : Sf} {W ws : Ws} (h : Frm b W σ) (hw : frmB b W ws = true) : Frm b W (EV.upd σ ws) := ⟨fun q h1 h2 => by
  have : lookW ws q = none := by
    cases hl : lookW ws q with
    | none => rfl
    | some x =>
      have := List.all_eq_true.1 hw _ (look_mem hl)
      simp only [h1, Option.isSome_none, Bool.false_or] at this
      exact absurd (Option.isNone_iff_eq_none.1 this) h2
  simp only [EV.upd, this, Option.none_or]; exact h.ok q h1 h2⟩
/-- A loop within a loop. -/
theorem Frm.drp {σ1 : Sf} {ts1 ts2 : List Nat} {n1 n2 : Nat} {W : Ws} (h : Frm (EW.drp (TT ts1 n1) σ1) W σ) (hn : n1 ≤ n2) (ht : (ts2.all fun i => bif Nat.blt i 1000000 then inN ts1 i || (lookW W (.t i)).isSome else inB ts1 (i - 1000000) || (lookW W (.b (i - 1000000))).isSome) = true) : Frm (EW.drp (TT ts1 n1) σ1) W (EW.drp (TT ts2 n2) σ) := ⟨fun q h1 h2 => by
  rw [← h.ok q h1 h2]
  have hb : TT ts1 n1 q = false := by
    cases hq : TT ts1 n1 q with
    | false => rfl
    | true => exact absurd (by simp [EW.drp, hq]) h2
  have h3 : TT ts2 n2 q = false := by
    cases q with
    | t i =>
      cases hi : TT ts2 n2 (.t i) with
      | false => rfl
      | true =>
        have key : ∀ l : List Nat, inN l i = true → i ∈ l := fun l hl => by
          induction l with
          | nil => cases hl
          | cons k l ih =>
            simp only [inN] at hl
            cases hq : Nat.ble 1000000 k with
            | true => rw [hq] at hl; exact List.mem_cons_of_mem _ (ih hl)
            | false =>
              rw [hq] at hl
              cases hq2 : Nat.blt i k with
              | true => rw [hq2] at hl; cases hl
              | false =>
                rw [hq2] at hl
                simp only [cond_false, Bool.or_eq_true] at hl
                rcases hl with hl | hl
                · rw [Nat.eq_of_beq_eq_true hl]; exact List.mem_cons_self
                · exact List.mem_cons_of_mem _ (ih hl)
        simp only [TT, Bool.and_eq_true] at hi
        have := List.all_eq_true.1 ht i (key _ hi.1)
        simp only [TT, hi.2, Bool.and_true] at hb
        rw [hi.2] at this
        simp [hb, h1] at this
    | b n =>
      cases h4 : TT ts2 n2 (.b n) with
      | false => rfl
      | true =>
        simp only [TT, Bool.or_eq_true] at h4
        simp only [TT, Bool.or_eq_false_iff] at hb
        rcases h4 with h4 | h4
        · have h5 : n2 ≤ n := Nat.le_of_ble_eq_true h4
          have : Nat.ble n1 n = true := by rw [Nat.ble_eq]; omega
          rw [this] at hb; exact absurd hb.1 (by simp)
        · have := List.all_eq_true.1 ht _ (inB_mem h4)
          rw [show Nat.blt (n + 1000000) 1000000 = false from by
            cases hq : Nat.blt (n + 1000000) 1000000 with
            | false => rfl
            | true => have := Nat.le_of_ble_eq_true hq; omega, Nat.add_sub_cancel, hb.2, h1] at this
          simp at this
    | l n =>
      cases h4 : TT ts2 n2 (.l n) with
      | false => rfl
      | true =>
        have h5 : n2 ≤ n := Nat.le_of_ble_eq_true h4
        have : Nat.ble n1 n = true := by rw [Nat.ble_eq]; omega
        simp only [TT] at hb; rw [this] at hb; exact absurd hb (by simp)
  simp [EW.drp, h3]⟩
theorem SubS.of {b : Sf} {W : Ws} (hW : subW σ W) (hF : Frm b W σ) : SubS (EV.upd b W) σ := fun q x hx => by
  simp only [EV.upd] at hx
  cases hl : lookW W q with
  | some y => rw [hl] at hx; cases hx; exact subW_of hW q x hl
  | none => rw [hl, Option.none_or] at hx; rw [hF.ok q hl (by rw [hx]; simp)]; exact hx
theorem SubS.drp {T : Key → Bool} : SubS (EW.drp T σ) σ := fun q x hx => by
  unfold EW.drp at hx
  cases h : T q with
  | true => rw [h] at hx; cases hx
  | false => rw [h] at hx; exact hx
theorem Cl.drp {ts : List Nat} {n0 : Nat} (h : Cl σ) (hn : NL n0 σ) : Cl (EW.drp (TT ts n0) σ) := by
  have key : ∀ n, σ (.l n) ≠ none → EW.drp (TT ts n0) σ (.l n) ≠ none := fun n h1 => by
    have : ¬ n0 ≤ n := fun h2 => h1 (hn.no n h2)
    have e : Nat.ble n0 n = false := by
      cases hb : Nat.ble n0 n with
      | false => rfl
      | true => exact absurd (Nat.le_of_ble_eq_true hb) this
    simp only [EW.drp, TT, e, cond_false]; exact h1
  refine ⟨fun q x hx n hnn => key n (h.1 q x (SubS.drp q x hx) n hnn), fun n hx => key n (h.2 n ?_)⟩
  intro h0; apply hx
  unfold EW.drp; rw [h0]; cases TT ts n0 (.b n) <;> rfl
/-- What is kept stays closed. -/
structure ClD (ts : List Nat) (n0 : Nat) (σ : Sf) : Prop where
  go : Cl σ → Cl (EW.drp (TT ts n0) σ)
theorem ClD.nl {ts : List Nat} {n0 : Nat} (h : NL n0 σ) : ClD ts n0 σ := ⟨fun hc => Cl.drp hc h⟩
/-- What is kept names none from n0 on. -/
structure NM (ts : List Nat) (n0 : Nat) (σ : Sf) : Prop where
  no : ∀ q x, TT ts n0 q = false → σ q = some x → ∀ n ∈ x.names, n < n0
theorem NM.emp {ts : List Nat} {n0 : Nat} : NM ts n0 emp := ⟨fun _ _ _ h => by cases h⟩
def wsNm (ts : List Nat) (n0 : Nat) (ws : Ws) : Bool := ws.all fun x => TT ts n0 x.1 || x.2.names.all fun n => Nat.blt n n0
theorem NM.upd {ts : List Nat} {n0 : Nat} {ws : Ws} (h : NM ts n0 σ) (hw : wsNm ts n0 ws = true) : NM ts n0 (EV.upd σ ws) := ⟨fun q x hq hx n hn => by
  simp only [EV.upd] at hx
  cases hl : lookW ws q with
  | none => rw [hl, Option.none_or] at hx; exact h.no q x hq hx n hn
  | some y =>
    rw [hl] at hx; cases hx
    have := List.all_eq_true.1 hw _ (look_mem hl)
    simp only [hq, Bool.false_or, List.all_eq_true] at this
    simpa [Nat.blt_eq] using this n hn⟩
theorem NM.drp {ts : List Nat} {n0 : Nat} {T : Key → Bool} (h : NM ts n0 σ) : NM ts n0 (EW.drp T σ) := ⟨fun q x hq hx => h.no q x hq (SubS.drp q x hx)⟩
theorem ClD.nm {ts : List Nat} {n0 : Nat} (h : NM ts n0 σ) : ClD ts n0 σ := ⟨fun hc => by
  have low : ∀ n, n < n0 → EW.drp (TT ts n0) σ (.l n) = σ (.l n) := fun n hn => by
    have e : Nat.ble n0 n = false := by
      cases hb : Nat.ble n0 n with
      | false => rfl
      | true => have := Nat.le_of_ble_eq_true hb; omega
    simp only [EW.drp, TT, e, cond_false]
  have kept : ∀ q x, EW.drp (TT ts n0) σ q = some x → TT ts n0 q = false ∧ σ q = some x := fun q x hx => by
    unfold EW.drp at hx
    cases ht : TT ts n0 q with
    | true => rw [ht] at hx; cases hx
    | false => rw [ht] at hx; exact ⟨rfl, hx⟩
  refine ⟨fun q x hx n hn => ?_, fun n hx => ?_⟩
  · obtain ⟨h1, h2⟩ := kept q x hx
    rw [low n (h.no q x h1 h2 n hn)]; exact hc.1 q x h2 n hn
  · cases hb : EW.drp (TT ts n0) σ (.b n) with
    | none => exact absurd hb hx
    | some y =>
      obtain ⟨h1, h2⟩ := kept _ y hb
      have : n < n0 := by
        rcases Nat.lt_or_ge n n0 with h3 | h3
        · exact h3
        · have : Nat.ble n0 n = true := by rw [Nat.ble_eq]; exact h3
          simp only [TT, this, Bool.true_or] at h1; cases h1
      rw [low n this]; exact hc.2 n (by rw [h2]; simp)⟩
/-- Whoever is named in ws is known. -/
def clB (b : Sf) (ws : Ws) : Bool := ws.all fun x => (x.2.names.all fun n => (EV.upd b ws (.l n)).isSome) && (match x.1 with | .b n => (EV.upd b ws (.l n)).isSome | _ => true)
theorem Cl.updB {b : Sf} {ws : Ws} (h : Cl b) (hc : clB b ws = true) : Cl (EV.upd b ws) := by
  have up : ∀ n, b (.l n) ≠ none → EV.upd b ws (.l n) ≠ none := fun n h1 => by
    simp only [EV.upd]
    cases lookW ws (.l n) with
    | some y => simp
    | none => simpa using h1
  have is : ∀ {o : Option KV}, o.isSome = true → o ≠ none := fun h1 h2 => by rw [h2] at h1; cases h1
  refine ⟨fun q x hx n hn => ?_, fun n hx => ?_⟩
  · simp only [EV.upd] at hx
    cases hl : lookW ws q with
    | some y =>
      rw [hl] at hx; cases hx
      have := List.all_eq_true.1 hc _ (look_mem hl)
      simp only [Bool.and_eq_true, List.all_eq_true] at this
      exact is (this.1 n hn)
    | none => rw [hl, Option.none_or] at hx; exact up n (h.1 q x hx n hn)
  · cases hl : lookW ws (.b n) with
    | some y =>
      have := List.all_eq_true.1 hc _ (look_mem hl)
      simp only [Bool.and_eq_true] at this
      exact is this.2
    | none =>
      refine up n (h.2 n fun h0 => hx ?_)
      simp only [EV.upd, hl, h0, Option.none_or]
/-- What a round owes: the state of some later round. -/
def Later {ι : Type} (c : Ctx) (S : ι → Sf) (μ : ι → Nat) (j : ι) (a : Act) (w : World) : Prop := ∃ k, μ k < μ j ∧ ∃ e, Real c (S k) e a w
theorem exists_min {ι : Type} (μ : ι → Nat) (p : ι → Prop) (h : ∃ j, p j) : ∃ j, p j ∧ ∀ k, p k → μ j ≤ μ k := by
  obtain ⟨j, hj⟩ := h
  generalize hm : μ j = m
  induction m using Nat.strongRecOn generalizing j with
  | _ m ih =>
    by_cases hk : ∃ k, p k ∧ μ k < m
    · obtain ⟨k, hk, hlt⟩ := hk
      exact ih (μ k) hlt k hk rfl
    · exact ⟨j, hj, fun k hpk => by
        rcases Nat.lt_or_ge (μ k) m with h | h
        · exact absurd ⟨k, hpk, h⟩ hk
        · omega⟩
theorem CW_family {ι : Type} {x : Code} (S : ι → Sf) (μ : ι → Nat) (j : ι) (hs : ∀ e a w, Real c σ e a w → Real c (S j) e a w)
    (round : ∀ j, CW c F nn x (Exit.then (Later c S μ j) Q) (S j)) : CW c F nn (.loop x) Q σ := ⟨fun e a w hR => by
  refine wpIn_loop (fun a w => ∃ j, ∃ e, Real c (S j) e a w) (fun a w => open Classical in if h : ∃ j, ∃ e, Real c (S j) e a w then μ (exists_min μ (fun j => ∃ e, Real c (S j) e a w) h).choose else 0) ⟨j, e, hs e a w hR⟩ ?_
  intro a w hI
  obtain ⟨⟨e', hR'⟩, hmin⟩ := (exists_min μ (fun j => ∃ e, Real c (S j) e a w) hI).choose_spec
  refine wpIn_mono ((round _).go e' a w hR') ?_
  intro x a' w' h
  cases x with
  | normal =>
    obtain ⟨k, hlt, e2, hR2⟩ := h
    have hI2 : ∃ j, ∃ e, Real c (S j) e a' w' := ⟨k, e2, hR2⟩
    refine ⟨hI2, ?_⟩
    simp only [dif_pos hI, dif_pos hI2]
    have := (exists_min μ (fun j => ∃ e, Real c (S j) e a' w') hI2).choose_spec.2 k ⟨e2, hR2⟩
    exact Nat.lt_of_le_of_lt this hlt
  | exit => exact h
  | goto => exact h
  | ret => exact h
  | panic => exact h
  | outgrown => exact h⟩
/-- The state of a round. -/
def RS {ι : Type} (σ : Sf) (ts : List Nat) (n0 : Nat) (W : ι → Ws) (j : ι) : Sf := EV.upd (drp (TT ts n0) σ) (W j)
theorem eLoop {ι : Type} {x : Code} (ts : List Nat) (n0 : Nat) (W : ι → Ws) (μ : ι → Nat) (j : ι) (h0 : subW σ (W j)) (hN : ClD ts n0 σ) (hc : ∀ j, clB (drp (TT ts n0) σ) (W j) = true) (hf : ∀ j, ∀ n ∈ c.fm, EV.upd (drp (TT ts n0) σ) (W j) (.l n) = some (.l true) ∧ EV.upd (drp (TT ts n0) σ) (W j) (.b n) = some (.b .df))
    (round : ∀ j, CX c F nn x (Exit.then (Later c (RS σ ts n0 W) μ j) Q) (EV.upd (drp (TT ts n0) σ) (W j)) sup) : CX c F nn (.loop x) Q σ sup :=
  ⟨⟨fun e a w hR => (CW_family (RS σ ts n0 W) μ j (fun e a w hR => Real.less hR (fun q x hx => by
      simp only [RS, EV.upd] at hx
      cases hl : lookW (W j) q with
      | some y => rw [hl] at hx; cases hx; exact subW_of h0 q x hl
      | none => rw [hl, Option.none_or] at hx; exact SubS.drp q x hx) (Cl.updB (hN.go hR.W.cl) (hc j)) (hf j)) (fun j => (round j).go)).go e a w hR⟩⟩
theorem eLater {ι : Type} {σ' : Sf} {ts : List Nat} {n0 : Nat} {W : ι → Ws} {μ : ι → Nat} {j : ι} (k : ι) (hlt : μ k < μ j) (hW : subW σ' (W k)) (hF : Frm (drp (TT ts n0) σ) (W k) σ') (hcl : Cl (drp (TT ts n0) σ) → clB (drp (TT ts n0) σ) (W k) = true) (hb : Cl (drp (TT ts n0) σ)) (hf : ∀ n ∈ c.fm, EV.upd (drp (TT ts n0) σ) (W k) (.l n) = some (.l true) ∧ EV.upd (drp (TT ts n0) σ) (W k) (.b n) = some (.b .df)) :
    KX c (Exit.then (Later c (RS σ ts n0 W) μ j) Q .normal) σ' sup :=
  ⟨⟨fun e a w hR => ⟨k, hlt, e, Real.less hR (SubS.of hW hF) (Cl.updB hb (hcl hb)) hf⟩⟩⟩
theorem isLater {ι : Type} {S : ι → Sf} {μ : ι → Nat} {j : ι} (h : KX c (Exit.then (Later c S μ j) Q .normal) σ sup) : KX c (Exit.then (Later c S μ j) Q .normal) σ sup := h
/-- A loop: with the closedness of what is kept at hand in each round. -/
theorem eLoopC {ι : Type} {x : Code} (ts : List Nat) (n0 : Nat) (W : ι → Ws) (μ : ι → Nat) (j : ι) (h0 : subW σ (W j)) (hN : ClD ts n0 σ) (hc : ∀ j, clB (drp (TT ts n0) σ) (W j) = true) (hf : ∀ j, ∀ n ∈ c.fm, EV.upd (drp (TT ts n0) σ) (W j) (.l n) = some (.l true) ∧ EV.upd (drp (TT ts n0) σ) (W j) (.b n) = some (.b .df))
    (round : Cl (drp (TT ts n0) σ) → ∀ j, CX c F nn x (Exit.then (Later c (RS σ ts n0 W) μ j) Q) (EV.upd (drp (TT ts n0) σ) (W j)) sup) : CX c F nn (.loop x) Q σ sup :=
  ⟨⟨fun e a w hR => (eLoop (sup := sup) ts n0 W μ j h0 hN hc hf (round (hN.go hR.W.cl))).go.go e a w hR⟩⟩
theorem eLoopD {ι : Type} {x : Code} (ts : List Nat) (n0 : Nat) (W : ι → Ws) (μ : ι → Nat) (j : ι) (h0 : subW σ (W j))
    (round : Cl (drp (TT ts n0) σ) → ∀ j, CX c F nn x (Exit.then (Later c (RS σ ts n0 W) μ j) Q) (EV.upd (drp (TT ts n0) σ) (W j)) sup) (hN : autoParam (ClD ts n0 σ) aCLD._auto_1) (hc : ∀ j, clB (drp (TT ts n0) σ) (W j) = true := by exact fun _ => rfl) (hf : autoParam (∀ j, ∀ n ∈ c.fm, EV.upd (drp (TT ts n0) σ) (W j) (.l n) = some (.l true) ∧ EV.upd (drp (TT ts n0) σ) (W j) (.b n) = some (.b .df)) aFMT._auto_1) : CX c F nn (.loop x) Q σ sup := eLoopC ts n0 W μ j h0 hN hc hf round
theorem eLaterD {ι : Type} {σ' : Sf} {ts : List Nat} {n0 : Nat} {W : ι → Ws} {μ : ι → Nat} {j : ι} (k : ι) (hlt : μ k < μ j) (hW : subW σ' (W k)) (hb : Cl (drp (TT ts n0) σ)) (hF : autoParam (Frm (drp (TT ts n0) σ) (W k) σ') aFRM._auto_1) (hcl : Cl (drp (TT ts n0) σ) → clB (drp (TT ts n0) σ) (W k) = true := by exact fun _ => rfl) (hf : autoParam (∀ n ∈ c.fm, EV.upd (drp (TT ts n0) σ) (W k) (.l n) = some (.l true) ∧ EV.upd (drp (TT ts n0) σ) (W k) (.b n) = some (.b .df)) aFMT._auto_1) :
    KX c (Exit.then (Later c (RS σ ts n0 W) μ j) Q .normal) σ' sup := eLater k hlt hW hF hcl hb hf
def argW : Nat → List V → Ws
  | _, [] => []
  | i, v :: r => (.t i, .v v) :: argW (i + 1) r
theorem lookW_arg : ∀ (l : List V) (i : Nat) (q : Key), lookW (argW i l) q = match q with
    | .t j => if i ≤ j then (l[j - i]?).map KV.v else none
    | _ => none
  | [], i, q => by cases q <;> simp [argW, lookW]
  | x :: r, i, q => by
    simp only [argW, lookW, lookW_arg r (i + 1) q]
    cases q with
    | b m => simp [Key.beq]
    | l m => simp [Key.beq]
    | t j =>
      by_cases h : i = j
      · subst h; simp [Key.beq]
      · have hne : Nat.beq i j = false := by
          cases hb : Nat.beq i j with
          | true => exact absurd (Nat.eq_of_beq_eq_true hb) h
          | false => rfl
        simp only [Key.beq, hne, cond_false]
        by_cases hle : i ≤ j
        · rw [if_pos hle, if_pos (by omega), show j - i = j - (i + 1) + 1 from by omega]; simp
        · rw [if_neg hle, if_neg (by omega)]
def env0 : Env := ⟨fun _ => 0, fun _ => 0, fun _ => 0⟩
theorem eEnter {P : Program} {f : FuncId} {fn : Func} {code : Code} {vs : List V} {L : List Value} {w : World} {R : Ending → World → Prop} {N : Nat} {ws : Ws} (hf : P.funcs[f]? = some fn) (hb : fn.body = some code) (hN : fn.ntmps = N)
    (h : CX ⟨P, w, fun _ => False, GV 0 1000000, env0, N, []⟩ Fence.wide 0 code (bodyPostM Fence.wide 0 P fn R) (upd emp ws) ([10, 20, 30, 40, 50, 60, 70, 80, 90, 100, 110, 120, 130, 140, 150, 160, 170, 180, 190, 200, 210, 220, 230, 240, 250, 260, 270, 280, 290, 300, 310, 320, 330, 340, 350, 360, 370, 380, 390, 400, 410, 420, 430, 440, 450, 460, 470, 480, 490, 500, 510, 520, 530, 540, 550, 560, 570, 580, 590, 600])) (hv : autoParam (PlVs vs L) aPLVS._auto_1) (h1 : autoParam (vs.all oneV = true) aONE._auto_1) (hle : Nat.ble vs.length N = true := by rfl) (hws : autoParam (Is (argW 0 vs) ws) aNRM._auto_1) : Calls P f L.toArray w R := by
  obtain ⟨rfl⟩ := hws
  refine (callsIn_wide (n := 0)).1 (callsIn_of_wp_marks hf hb trivial ?_)
  refine h.go.go env0 _ w ?_
  have hlen : L.length = vs.length := by
    clear h h1 hle
    induction hv with
    | nil => rfl
    | cons _ _ ih => simp [ih]
  have hle' := Nat.le_of_ble_eq_true hle
  have hb0 : ∀ n, upd emp (argW 0 vs) (.b n) = none := fun n => by simp [upd, lookW_arg, emp]
  have hl0 : ∀ n, upd emp (argW 0 vs) (.l n) = none := fun n => by simp [upd, lookW_arg, emp]
  have ht0 : ∀ i, upd emp (argW 0 vs) (.t i) = (vs[i]?).map KV.v := fun i => by simp [upd, lookW_arg, emp]
  have hok : OkVs (upd emp (argW 0 vs)) env0 vs L := hv.oks h1
  refine ⟨⟨fun n b h => by (rw [hl0] at h; cases h), fun n n' b b' h => by (rw [hl0] at h; cases h), fun n b h => by (rw [hl0] at h; cases h), ⟨fun q x hx n hn => ?_, fun n h => absurd (hb0 n) h⟩, fun _ _ => .rfl, rfl, rfl, rfl, Nat.le_refl _, fun _ _ _ => rfl⟩, rfl, (fun n hn => by cases hn), (by simp; omega), fun i v hx => ?_⟩
  · cases q with
    | t i =>
      rw [ht0] at hx
      simp only [Option.map_eq_some_iff] at hx
      obtain ⟨v, hv', rfl⟩ := hx
      have : v.names = [] := hv.names v (List.mem_of_getElem? hv')
      simp only [KV.names, this] at hn; cases hn
    | b k => rw [hb0] at hx; cases hx
    | l k => rw [hl0] at hx; cases hx
  · rw [ht0] at hx
    simp only [Option.map_eq_some_iff] at hx
    obtain ⟨v', hv', he⟩ := hx
    cases he
    obtain ⟨u, g1, g2⟩ := hok.get hv'
    have hlt : i < L.length := (List.getElem?_eq_some_iff.1 g1).1
    refine ⟨u, ?_, g2⟩
    rw [Array.getElem?_append_left (by simpa using hlt)]
    simpa using g1
theorem RealW.below {gv : Nat → Prop} {P : Program} {ini : Env} {N : Nat} {fm : List Nat} {w0 : World} (h : RealW ⟨P, w0, fun _ => False, gv, ini, N, fm⟩ s e w) : Below w0.heap.size w0 w := ⟨h.os, h.tape, h.output, h.size, fun k hk => h.old k hk (fun h => h)⟩
/-- The end, with a plain answer. -/
theorem eLeaveP {P : Program} {fn : Func} {w0 : World} {gv : Nat → Prop} {ini : Env} {N : Nat} {R : Ending → World → Prop} {vs : List V} {v : V} {X : Value} {x : Exit} {fm : List Nat} 
    (h : ∀ w, Below w0.heap.size w0 w → R (.returned X) w) (hx : x = .ret ∨ x = .normal := by first | exact .inl rfl | exact .inr rfl) (hr : resL P (killM σ fm) fn.results.toList = some vs := by rfl) (hv : tupC vs = some v := by rfl) (hp : autoParam (PlV v X) aPLV._auto_1) (hnd : autoParam (fm.Nodup) aNDP._auto_1) : KX ⟨P, w0, fun _ => False, gv, ini, N, fm⟩ (bodyPostM Fence.wide nn P fn R x) σ sup :=
  ⟨KW_leave hx rfl hnd hr hv fun e u w hW hu _ => by rw [hp.uniq hu]; exact h w (RealW.below hW)⟩
end
/-- On to the next text. -/
theorem nm {p q : Prop} (h : q) (hn : q → p := by (intro h; (repeat (first | refine EW.eSeq ?_ | with_reducible refine EW.eThen ?_ | refine EW.eBlock ?_ | refine EW.eSkip ?_ | refine EW.eRet ?_ | refine EW.eExit ?_ | refine EW.eScope ?_ | refine EW.eLabel ?_ | with_reducible refine EW.eNext ?_ | with_reducible refine EW.eRound ?_ | with_reducible refine EW.eBlkN ?_ | with_reducible refine EW.eBlkR ?_ | with_reducible refine EW.eBlkX ?_ | with_reducible refine EW.eBlkP ?_ | with_reducible refine EW.eThenRet ?_ | with_reducible refine EW.eThenExit ?_ | with_reducible refine EW.eNoGotoR ?_ | with_reducible refine EW.eNoGotoN ?_ | with_reducible refine EW.eNoGotoX ?_)); exact h)) : p := hn h
/-- No name above: settled by looking. -/
theorem nlP {p : Prop} (h : autoParam (p) aNLT._auto_1) : p := h
theorem orP {p : Prop} (h : p := by first | exact .inl rfl | exact .inr rfl) : p := h
/-- Names for what is new. -/
abbrev sup1 : List Nat := [10, 20, 30, 40, 50, 60, 70, 80, 90, 100, 110, 120, 130, 140, 150, 160, 170, 180, 190, 200, 210, 220, 230, 240, 250, 260, 270, 280, 290, 300, 310, 320, 330, 340, 350, 360, 370, 380, 390, 400, 410, 420, 430, 440, 450, 460, 470, 480, 490, 500, 510, 520, 530, 540, 550, 560, 570, 580, 590, 600]
end Go.Proofs.Ytnmkpekfkfckoaa.EW
