/- The document's pack: the writer. -/
import Derived.Test.YtnmkpekfkfckoaaHPkF
namespace Go.Proofs.Ytnmkpekfkfckoaa
set_option linter.unusedSimpArgs false
set_option linter.unusedVariables false
open Go.RowKit EV
open SX (Wr Tv Qu Rm Sh Is conjP eqs_iff eqs_false)
open EW (PlL PlT PlV PlVs LfV Mm Bt Opn GV YT lpOf nums)
set_option maxRecDepth 20000
abbrev vcs (k n : Nat) (lost : Bool) : List C := [.g k 0 n n 1, .v (.bool lost)]
noncomputable def WV (bs : List Int) (lost : Bool) : Ws := [(.l 0, .l true), (.b 0, .b (.m true (vcs 1 bs.length lost))), (.l 1, .l true), (.b 1, .b (.w true (nums .u8 bs)))]
noncomputable def WVs (bs : List Int) (lost : Bool) (o : Bool) (src : List Int) : Ws := WV bs lost ++ [(.l 2, .l true), (.b 2, .b (.w o (nums .u8 src)))]
theorem take_nums {l : List Int} {n : Nat} (h : n = l.length) : ((nums .u8 l).drop 0).take (n * 1) = nums .u8 l := by
  rw [List.drop_zero, List.take_of_length_le (by rw [EW.nums_len]; omega)]
theorem vput_ok (bs src : List Int) (o : Bool) (hl : bs.length ≤ 500000) (hs : src.length ≤ 500000) : CT Try.prog 64 [.c (.p 0 0), .c (.g 2 0 src.length src.length 1), .c (.v (.bool true))] (upd EW.emp (WVs bs false o src)) 3 4 (.t []) (upd (upd EW.emp (WVs bs false o src)) [(.b 0, .b (.m true (vcs 3 (bs ++ src).length false))), (.l 3, .l true), (.b 3, .b (.w true (nums .u8 (bs ++ src))))]) := by
  refine EW.ctEnter EW.sup1 Try.func64 rfl Try.ntmps64 rfl EW.nlP ?_; intro w0 tch ini R hR
  all_goals try (refine EW.nm ?_)
  all_goals try (refine EW.eReg (id := 0) ?_; refine EW.eMove ?_; refine EW.eMove ?_; (first | refine EW.eNil ?_ | refine EW.eNilF ?_ | refine EW.eNilY ?_ | refine EW.eNilP ?_); refine EW.eFieldAddr (k := 1) ?_; refine EW.eLoad1 ?_; refine EW.eMove ?_)
  all_goals try (refine EW.eGuard (j := 5) (o := ⟨some 13, _, _, _, _, _⟩) ?_ ?_ <;> (intro hb hb'; (try dsimp only at hb'); (try (exfalso; first | omega | with_reducible exact absurd rfl hb'))))
  all_goals try ((first | refine EW.eSkipF (j := 5) ?_ | refine EW.eSkipU (j := 5) ?_ | refine EW.eMove ?_); (first | refine EW.eSkipF (j := 5) ?_ | refine EW.eSkipU (j := 5) ?_ | refine EW.eNot ?_); (first | refine EW.ePickT ?_ | refine EW.ePickF ?_); (first | refine EW.eNil ?_ | refine EW.eNilF ?_ | refine EW.eNilY ?_ | refine EW.eNilP ?_); refine EW.eFieldAddr (k := 1) ?_; (first | refine EW.eStoreW (k := 1) ?_ | refine EW.eStore (k := 1) ?_); refine EW.eEnd ?_; (try refine EW.nm ?_))
  all_goals try (refine EW.eReg (id := 1) ?_; refine EW.eMove ?_; (first | refine EW.eNil ?_ | refine EW.eNilF ?_ | refine EW.eNilY ?_ | refine EW.eNilP ?_); refine EW.eFieldAddr (k := 1) ?_; refine EW.eLoad1 ?_; refine EW.eEnd ?_; (try refine EW.nm ?_))
  all_goals try (first | refine EW.eYes (x := .tmp 21) ?_ | refine EW.eNo (x := .tmp 21) ?_ | (refine EW.eCond (x := .tmp 21) ?_ ?_ <;> (intro hb hb'; (try dsimp only at hb'); (try (exfalso; first | omega | with_reducible exact absurd rfl hb')))))
  all_goals try (refine EW.nm ?_)
  all_goals try (with_reducible refine EW.parkK ?_)
  all_goals try (refine EW.eReg (id := 2) ?_; refine EW.eAssign ?_; refine EW.eEnd ?_; (try refine EW.nm ?_))
  all_goals try (refine EW.eReg (id := 3) ?_; refine EW.eMove ?_; refine EW.eMove ?_; (first | refine EW.eNil ?_ | refine EW.eNilF ?_ | refine EW.eNilY ?_ | refine EW.eNilP ?_); refine EW.eFieldAddr (k := 1) ?_; refine EW.eLoad1 ?_; (first | refine EW.eAppGW (z := 1) ?_ | refine EW.eAppG (z := 1) ?_ | refine EW.eAppZW (z := 1) ?_ | refine EW.eAppZ (z := 1) ?_ | refine EW.eAppSW (z := 1) ?_ | refine EW.eAppS (z := 1) ?_ | refine EW.eAppNW (z := 1) ?_ | refine EW.eAppN (z := 1) ?_); refine EW.eAssign ?_; refine EW.eEnd ?_; (try refine EW.nm ?_))
  all_goals try (refine EW.eReg (id := 4) ?_; refine EW.eMove ?_; refine EW.eMove ?_; refine EW.eMove ?_; (first | refine EW.eAppGW (z := 1) ?_ | refine EW.eAppG (z := 1) ?_ | refine EW.eAppZW (z := 1) ?_ | refine EW.eAppZ (z := 1) ?_ | refine EW.eAppSW (z := 1) ?_ | refine EW.eAppS (z := 1) ?_ | refine EW.eAppNW (z := 1) ?_ | refine EW.eAppN (z := 1) ?_); (first | refine EW.eNil ?_ | refine EW.eNilF ?_ | refine EW.eNilY ?_ | refine EW.eNilP ?_); refine EW.eFieldAddr (k := 1) ?_; (first | refine EW.eStoreW (k := 1) ?_ | refine EW.eStore (k := 1) ?_); refine EW.eEnd ?_; (try refine EW.nm ?_))
  all_goals (refine EW.eEqBK 20 (.w true (nums .u8 (bs ++ src))) ?_ ?_; (focus (rw [take_nums rfl]; simp [nums])); refine EW.eEqBK 0 (.m true (vcs 20 (bs ++ src).length false)) ?_ ?_; (focus (rw [List.length_append])))
  all_goals try (refine EW.Park.mk ?_)
  all_goals (refine EW.eLeaveN [20] hR EW.orP (by rfl) (by rfl) ?_ ?_ rfl rfl EW.nlP rfl rfl; rotate_left 1; (· ((repeat (first | exact EW.atE.nil | refine EW.atE.lt rfl ?_ | refine EW.atE.lf ?_ | refine EW.atE.b rfl EW.SameB.refl ?_ | (refine EW.atE.b rfl ?_ ?_; rotate_left 1))))))
  all_goals rfl
theorem pow_le {n k : Nat} (h : n < 128 ^ (10 - k)) (hk : k < 10) : n / 128 < 128 ^ (10 - (k + 1)) := by
  have : 10 - k = (10 - (k + 1)) + 1 := by omega
  rw [this, Nat.pow_succ, Nat.mul_comm] at h
  exact Nat.div_lt_of_lt_mul h
theorem vform (n : Nat) (hn : n < 18446744073709551616) : CT Try.prog 65 [.c (.v (.int .u64 n))] (upd EW.emp []) 0 1 (.c (.g 0 0 (formN n).length (formN n).length 1)) (upd (upd EW.emp []) [(.l 0, .l true), (.b 0, .b (.w true (nums .u8 (formN n))))]) := by
  refine EW.ctEnter EW.sup1 Try.func65 rfl Try.ntmps65 rfl EW.nlP ?_; intro w0 tch ini R hR
  all_goals try (refine EW.nm ?_)
  all_goals try (refine EW.eReg (id := 0) ?_; refine EW.eAssign ?_; refine EW.eEnd ?_; (try refine EW.nm ?_))
  all_goals try (refine EW.eReg (id := 1) ?_; refine EW.eAssign ?_; refine EW.eEnd ?_; (try refine EW.nm ?_))
  all_goals try (refine EW.eReg (id := 2) ?_; refine EW.eAssign ?_; refine EW.eEnd ?_; (try refine EW.nm ?_))
  all_goals first | (fail_if_success (refine EW.eUnroll 1 ?_)) | (refine EW.eNilG 3 9 1 ?_)
  all_goals first | (fail_if_success (refine EW.eUnroll 1 ?_)) | (refine EW.eLoopD [0, 3, 4, 5, 6, 7, 8, 9, 10, 11, 12, 13, 14, 15, 16, 17, 18, 19, 20, 21] 9 (fun j : {x : Nat × Nat × List Int // x.2.2 ++ formN x.2.1 = [] ++ formN n ∧ x.2.1 < 128 ^ (10 - x.1) ∧ x.1 ≤ 10 ∧ x.2.1 ≤ n} => [(.t 4, .v (.c (.v (.int .i64 (j.1.1 : Int))))), (.t 0, .v (.c (.v (.int .u64 (j.1.2.1 : Int))))), (.t 3, .v (.c (.g 9 0 j.1.2.2.length j.1.2.2.length 1))), (.l 9, .l true), (.b 9, .b (.w true (nums .u8 j.1.2.2)))]) (fun j => j.1.2.1) (⟨(0, n, []), rfl, by simp; omega, by omega, Nat.le_refl _⟩) (by ((repeat (first | exact EW.subW.nil | refine EW.subW.cons rfl ?_ | refine EW.subW.conv rfl ?_ (by first | exact EW.kvW (by rw [← nums_snoc]; congr 3; omega) | exact EW.kvG (by simp) (by simp)) | refine EW.subW.conv rfl ?_)); (first | done | fail))) ?_; rintro hcl3 ⟨⟨k, m, o⟩, he, hm, hk, hmn⟩; (try dsimp only))
  all_goals try (refine EW.nm ?_)
  all_goals try (refine EW.eReg (id := 3) ?_; refine EW.eMove ?_; refine EW.eLss ?_; refine EW.eMove ?_)
  all_goals try (refine EW.eGuard (j := 2) (o := ⟨some 8, _, _, _, _, _⟩) ?_ ?_ <;> (intro hb hb'; (try dsimp only at hb'); (try (exfalso; first | omega | with_reducible exact absurd rfl hb'))))
  all_goals try ((first | refine EW.eSkipT (j := 2) ?_ | refine EW.eSkipU (j := 2) ?_ | refine EW.eMove ?_); (first | refine EW.eSkipT (j := 2) ?_ | refine EW.eSkipU (j := 2) ?_ | refine EW.eGeq ?_); (first | refine EW.ePickT ?_ | refine EW.ePickF ?_); refine EW.eEnd ?_; (try refine EW.nm ?_))
  all_goals try (first | refine EW.eYes (x := .tmp 10) ?_ | refine EW.eNo (x := .tmp 10) ?_ | (refine EW.eCond (x := .tmp 10) ?_ ?_ <;> (intro hb hb'; (try dsimp only at hb'); (try (exfalso; first | omega | with_reducible exact absurd rfl hb')))))
  all_goals try (refine EW.nm ?_)
  all_goals (try ((try dsimp only at he hm hk hmn); have hob := form_bnd (bs := []) he hn))
  all_goals try (refine EW.eReg (id := 5) ?_; refine EW.eMove ?_; refine EW.eMove ?_; refine EW.eRem ?_; refine EW.eAdd ?_; refine EW.eConv ?_; refine EW.eBuildSlice (k := 1) ?_; (first | refine EW.eAppGW (z := 1) ?_ | refine EW.eAppG (z := 1) ?_ | refine EW.eAppZW (z := 1) ?_ | refine EW.eAppZ (z := 1) ?_ | refine EW.eAppSW (z := 1) ?_ | refine EW.eAppS (z := 1) ?_ | refine EW.eAppNW (z := 1) ?_ | refine EW.eAppN (z := 1) ?_); refine EW.eAssign ?_; refine EW.eEnd ?_; (try refine EW.nm ?_))
  all_goals try (refine EW.eReg (id := 6) ?_; refine EW.eMove ?_; refine EW.eQuo ?_; refine EW.eAssign ?_; refine EW.eEnd ?_; (try refine EW.nm ?_))
  all_goals try (refine EW.eReg (id := 4) ?_; refine EW.eMove ?_; refine EW.eAdd ?_; refine EW.eAssign ?_; refine EW.eEnd ?_; (try refine EW.nm ?_))
  all_goals first | (fail_if_success (with_reducible refine EW.isLater ?_)) | (refine EW.eLaterN (⟨(k + 1, m / 128, o ++ [((m % 128 + 128 : Nat) : Int)]), form_next he (by omega), pow_le hm (by omega), by dsimp only; omega, by dsimp only; omega⟩) [(9, 20)] (by dsimp only; omega) (by ((repeat (first | exact EW.subR.nil | refine EW.subR.l rfl ?_ | refine EW.subR.b rfl rfl ?_ | refine EW.subR.t rfl rfl ?_ | refine EW.subR.b rfl (by first | exact EW.kvW (by rw [← nums_snoc]; congr 3; omega) | exact EW.kvG (by simp) (by simp)) ?_ | refine EW.subR.t rfl (by first | exact EW.kvW (by rw [← nums_snoc]; congr 3; omega) | exact EW.kvG (by simp) (by simp)) ?_ | refine EW.subR.b rfl (by (first | exact EW.kvI (by first | omega | (dsimp only; omega)) | exact EW.kvG (by first | omega | (simp only [EW.nums_len, List.length_cons, List.length_nil, List.length_append, List.length_map, List.length_set, List.length_replicate, List.length_take, List.length_drop, List.length_range, EV.putL_length, Nat.reduceAdd, Nat.reduceMul, Nat.reduceSub]; omega)) (by first | omega | (simp only [EW.nums_len, List.length_cons, List.length_nil, List.length_append, List.length_map, List.length_set, List.length_replicate, List.length_take, List.length_drop, List.length_range, EV.putL_length, Nat.reduceAdd, Nat.reduceMul, Nat.reduceSub]; omega)) | exact EW.kvB (by simp [*]) | exact EW.kvW (by (first | rfl | simp)) | rfl)) ?_ | refine EW.subR.t rfl (by (first | exact EW.kvI (by first | omega | (dsimp only; omega)) | exact EW.kvG (by first | omega | (simp only [EW.nums_len, List.length_cons, List.length_nil, List.length_append, List.length_map, List.length_set, List.length_replicate, List.length_take, List.length_drop, List.length_range, EV.putL_length, Nat.reduceAdd, Nat.reduceMul, Nat.reduceSub]; omega)) (by first | omega | (simp only [EW.nums_len, List.length_cons, List.length_nil, List.length_append, List.length_map, List.length_set, List.length_replicate, List.length_take, List.length_drop, List.length_range, EV.putL_length, Nat.reduceAdd, Nat.reduceMul, Nat.reduceSub]; omega)) | exact EW.kvB (by simp [*]) | exact EW.kvW (by (first | rfl | simp)) | rfl)) ?_)); (first | done | fail))) (by (((repeat (first | with_reducible exact EW.Frm.refl | refine EW.Frm.upd ?_ rfl | refine EW.Frm.drp ?_ (by decide) rfl)); (first | done | fail)))) (by first | rfl | decide) (by (((repeat (first | exact True.intro | refine ⟨by (exact GV.no rfl rfl), ?_⟩)); (first | done | fail)))) (fun _ => rfl) hcl3 rfl (by ((first | (intro j n hn; cases hn; (first | done | fail)) | (intro n hn; cases hn; (first | done | fail)) | (intro j n hn; (repeat (first | (rcases List.mem_cons.1 hn with rfl | hn; (focus exact ⟨rfl, rfl⟩)) | (cases hn; (first | done | fail))))) | (intro n hn; (repeat (first | (rcases List.mem_cons.1 hn with rfl | hn; (focus exact ⟨rfl, rfl⟩)) | (cases hn; (first | done | fail)))))))))
  all_goals try (refine EW.nm ?_)
  all_goals (try ((try dsimp only at he hm hk); have hm2 : m < 128 := (by rcases Nat.lt_or_ge k 10 with h | h; (focus omega); (focus (have : k = 10 := (by omega)); subst this; simp at hm; omega)); have hfl := form_last he hm2; have hob := form_bnd (bs := []) he hn))
  all_goals try (refine EW.eReg (id := 7) ?_; refine EW.eMove ?_; refine EW.eMove ?_; refine EW.eConv ?_; refine EW.eBuildSlice (k := 1) ?_; (first | refine EW.eAppGW (z := 1) ?_ | refine EW.eAppG (z := 1) ?_ | refine EW.eAppZW (z := 1) ?_ | refine EW.eAppZ (z := 1) ?_ | refine EW.eAppSW (z := 1) ?_ | refine EW.eAppS (z := 1) ?_ | refine EW.eAppNW (z := 1) ?_ | refine EW.eAppN (z := 1) ?_); refine EW.eAssign ?_; refine EW.eEnd ?_; (try refine EW.nm ?_))
  all_goals (refine EW.eEqBK 20 (.w true (nums .u8 (formN n))) ?_ ?_; (focus (rw [nums_snoc, hfl]; rfl)); refine EW.eEqTK 2 (.c (.g 20 0 (formN n).length (formN n).length 1)) ?_ ?_; (focus (rw [show formN n = o ++ [(m : Int)] from hfl.symm, List.length_append]; rfl)))
  all_goals try (with_reducible refine EW.parkK ?_)
  all_goals try (refine EW.Park.mk ?_)
  all_goals (refine EW.eLeaveN [20] hR EW.orP (by rfl) (by rfl) ?_ ?_ rfl rfl EW.nlP rfl rfl; rotate_left 1; (· ((repeat (first | exact EW.atE.nil | refine EW.atE.lt rfl ?_ | refine EW.atE.lf ?_ | refine EW.atE.b rfl EW.SameB.refl ?_ | (refine EW.atE.b rfl ?_ ?_; rotate_left 1))))))
  all_goals rfl
/-- What becomes of the document's writer. -/
abbrev Vmore (bs : List Int) : Ws := [(.b 0, .b (.m true (vcs 2 bs.length false))), (.l 2, .l true), (.b 2, .b (.w true (nums .u8 bs)))]
theorem vuint_ok (n : Nat) (bs : List Int) (hn : n < 18446744073709551616) (hl : bs.length ≤ 400000) : CT Try.prog 66 [.c (.p 0 0), .c (.v (.int .u64 n))] (upd EW.emp (WV bs false)) 2 3 (.t []) (upd (upd EW.emp (WV bs false)) (Vmore (bs ++ formN n))) := by
  have h10 := formN_10 hn
  refine EW.ctEnter EW.sup1 Try.func66 rfl Try.ntmps66 rfl EW.nlP ?_; intro w0 tch ini R hR
  all_goals try (refine EW.nm ?_)
  all_goals try (refine EW.eReg (id := 0) ?_; refine EW.eMove ?_; refine EW.eMove ?_; refine EW.eCallN [] Try.call65 (vform n hn) ?_; refine EW.eCallN [0, 1, 10] Try.call64 (vput_ok bs (formN n) true (by omega) (by omega)) ?_; refine EW.eEnd ?_; (try refine EW.nm ?_))
  all_goals try (refine EW.Park.mk ?_)
  all_goals (refine EW.eLeaveN [20] hR EW.orP (by rfl) (by rfl) ?_ ?_ rfl rfl EW.nlP rfl rfl; rotate_left 1; (· ((repeat (first | exact EW.atE.nil | refine EW.atE.lt rfl ?_ | refine EW.atE.lf ?_ | refine EW.atE.b rfl EW.SameB.refl ?_ | (refine EW.atE.b rfl ?_ ?_; rotate_left 1))))))
  all_goals rfl
theorem vsmall_ok (n : Nat) (m : Int) (bs : List Int) (h : (n : Int) ≤ m) (hm : m ≤ 9223372036854775807) (hl : bs.length ≤ 400000) : CT Try.prog 38 [.c (.p 0 0), .c (.v (.int .i64 n)), .c (.v (.int .i64 m))] (upd EW.emp (WV bs false)) 2 3 (.t []) (upd (upd EW.emp (WV bs false)) (Vmore (bs ++ formN n))) := by
  have h10 := formN_10 (n := n) (by omega)
  have hG := vform n (by omega)
  refine EW.ctEnter EW.sup1 Try.func38 rfl Try.ntmps38 rfl EW.nlP ?_; intro w0 tch ini R hR
  all_goals try (refine EW.nm ?_)
  all_goals try (refine EW.eReg (id := 0) ?_; refine EW.eMove ?_; refine EW.eMove ?_; refine EW.eConv ?_; refine EW.eCallN [] Try.call65 (hG) ?_; refine EW.eMove ?_; refine EW.eGeq ?_; refine EW.eMove ?_)
  all_goals try (refine EW.eGuard (j := 6) (o := ⟨some 13, _, _, _, _, _⟩) ?_ ?_ <;> (intro hb hb'; (try dsimp only at hb'); (try (exfalso; first | omega | with_reducible exact absurd rfl hb'))))
  all_goals try ((first | refine EW.eSkipT (j := 6) ?_ | refine EW.eSkipU (j := 6) ?_ | refine EW.eMove ?_); (first | refine EW.eSkipT (j := 6) ?_ | refine EW.eSkipU (j := 6) ?_ | refine EW.eMove ?_); (first | refine EW.eSkipT (j := 6) ?_ | refine EW.eSkipU (j := 6) ?_ | refine EW.eLeq ?_); (first | refine EW.ePickT ?_ | refine EW.ePickF ?_); refine EW.eCallN [0, 1, 10] Try.call64 (vput_ok bs (formN n) true (by omega) (by omega)) ?_; refine EW.eEnd ?_; (try refine EW.nm ?_))
  all_goals try (refine EW.Park.mk ?_)
  all_goals (refine EW.eLeaveN [20] hR EW.orP (by rfl) (by rfl) ?_ ?_ rfl rfl EW.nlP rfl rfl; rotate_left 1; (· ((repeat (first | exact EW.atE.nil | refine EW.atE.lt rfl ?_ | refine EW.atE.lf ?_ | refine EW.atE.b rfl EW.SameB.refl ?_ | (refine EW.atE.b rfl ?_ ?_; rotate_left 1))))))
  all_goals rfl
end Go.Proofs.Ytnmkpekfkfckoaa
