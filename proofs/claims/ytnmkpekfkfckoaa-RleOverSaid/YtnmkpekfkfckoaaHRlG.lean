/- rle: Encode. -/
import Derived.Test.YtnmkpekfkfckoaaHCrP
import Derived.Test.YtnmkpekfkfckoaaHRlD
import Derived.Test.YtnmkpekfkfckoaaHRlF
import Derived.Test.YtnmkpekfkfckoaaHImJ
import Derived.Test.YtnmkpekfkfckoaaHEwV
namespace Go.Proofs.Ytnmkpekfkfckoaa
set_option linter.unusedSimpArgs false
set_option linter.unusedVariables false
open Go.RowKit EV
open SX (Wr Tv Qu Rm Sh Is conjP eqs_iff eqs_false)
open EW (PlL PlT PlV PlVs LfV Mm Bt Opn GV YT lpOf nums)
set_option maxRecDepth 20000
/-- A span that may be, of numbers of their types. -/
structure Gd (l : List Px) : Prop where
  sp : spOk l
  wf : ∀ i, i < l.length → (l.getD i Px.zero).wf
theorem part_at (l : List Px) (a k i : Nat) (h : i < k) : ((l.drop a).take k).getD i Px.zero = l.getD (a + i) Px.zero := by
  rw [List.getD_eq_getElem?_getD, List.getElem?_take_of_lt h, List.getElem?_drop, List.getD_eq_getElem?_getD]
theorem pixB_gd {l : List Px} (h : Gd l) {a k : Nat} (hk : a + k ≤ l.length) : (pixB l a k).length ≤ 40 * k := pixB_len h.sp.2 h.wf a k hk
/-- What has been written when a run is done. -/
abbrev runBs (l : List Px) (bs : List Int) (at_ a b k : Nat) : List Int := bs ++ formN (a - at_) ++ formN (b - a) ++ pixB l a k
noncomputable def lpE (o1 o2 o3 d : Nat) : LoopK := lpOf Try.f13 0 [(1, .c (.p o1 0)), (6, .c (.p o2 0)), (7, .c (.p o3 0))] d
noncomputable def WEy (l : List Px) (at_ : Nat) (bs : List Int) : Ws := [(.l 0, .l true), (.b 0, .b (.lp (lpE 1 2 3 7))), (.l 1, .l true), (.b 1, .b (.m true [.g 4 0 l.length l.length 4])), (.l 2, .l true), (.b 2, .b (.m true [.p 5 0])), (.l 3, .l true), (.b 3, .b (.m true [.v (.int .i64 (at_ : Int))])), (.l 4, .l true), (.b 4, .b (.w false (pvs l))), (.l 5, .l true), (.b 5, .b (.m true (wcs 6 bs.length false))), (.l 6, .l true), (.b 6, .b (.w true (nums .u8 bs))), (.l 7, .l true), (.b 7, .b .df)]
set_option maxHeartbeats 2000000 in
theorem enc_y (l : List Px) (at_ a b : Nat) (bs : List Int) (hg : Gd l) (h1 : at_ ≤ a) (h2 : a < b) (h3 : b ≤ l.length) (hbs : bs.length ≤ 20 + 60 * at_) : YT Try.prog [.c (.v (.int .i64 (a : Int))), .c (.v (.int .i64 (b : Int)))] (upd EW.emp (WEy l at_ bs)) 8 9 none (upd (upd EW.emp (WEy l at_ bs)) [(.b 3, .b (.m true [.v (.int .i64 (b : Int))])), (.b 5, .b (.m true (wcs 8 (runBs l bs at_ a b (b - a)).length false))), (.l 6, .l false), (.l 8, .l true), (.b 8, .b (.w true (nums .u8 (runBs l bs at_ a b (b - a)))))]) := by
  have hl := hg.sp.1
  have f1 := formN_10 (n := a - at_) (by omega)
  have f2 := formN_10 (n := b - a) (by omega)
  have k1 : (bs ++ formN (a - at_)).length ≤ 30 + 60 * at_ := by rw [List.length_append]; omega
  have k2 : (bs ++ formN (a - at_) ++ formN (b - a)).length ≤ 40 + 60 * at_ := by rw [List.length_append]; omega
  have hS1 := wsmall_ok (a - at_) l.length bs (by omega) (by omega) (by omega)
  have hS2 := wsmall_ok (b - a) l.length (bs ++ formN (a - at_)) (by omega) (by omega) (by omega)
  have hpl : ∀ k, k ≤ b - a → (runBs l bs at_ a b k).length ≤ 40 + 60 * at_ + 40 * k := fun k hk => by
    have := pixB_gd hg (a := a) (k := k) (by omega)
    rw [List.length_append]; omega
  have hW : ∀ k, k < b - a → CT Try.prog 35 [.c (.p 0 0), .a (pcl (((l.drop a).take (b - a)).getD k Px.zero).z (((l.drop a).take (b - a)).getD k Px.zero).o (((l.drop a).take (b - a)).getD k Px.zero).t (((l.drop a).take (b - a)).getD k Px.zero).c)] (upd EW.emp (WW (runBs l bs at_ a b k) false)) 2 3 (.c (.v (.int .i64 0))) (upd (upd EW.emp (WW (runBs l bs at_ a b k) false)) (Wmore (runBs l bs at_ a b (k + 1)))) := fun k hk => by
    have hp := hpl k (by omega)
    rw [part_at l a (b - a) k hk]
    have := pwrite_y (l.getD (a + k) Px.zero) (runBs l bs at_ a b k) (hg.sp.2 _ (by omega)) (hg.wf _ (by omega)) (by omega)
    rwa [List.append_assoc, pixB_next (by omega)] at this
  have hwa : Wr .i64 ((a : Int) - (at_ : Int)) ((a - at_ : Nat) : Int) := by rw [show (a : Int) - (at_ : Int) = ((a - at_ : Nat) : Int) by omega]; exact Wr.i64 (by omega)
  have hwb : Wr .i64 ((b : Int) - (a : Int)) ((b - a : Nat) : Int) := by rw [show (b : Int) - (a : Int) = ((b - a : Nat) : Int) by omega]; exact Wr.i64 (by omega)
  have hsb := pvs_part (l := l) (a := a) (k := b - a) (by omega)
  have e0 : bs ++ formN (a - at_) ++ formN (b - a) = runBs l bs at_ a b 0 := by rw [runBs, pixB_0, List.append_nil]
  rw [e0] at hS2
  generalize formN (a - at_) = F1 at *
  have hlen2 : ((l.drop a).take (b - a)).length = b - a := by rw [List.length_take, List.length_drop]; omega
  generalize hq : (l.drop a).take (b - a) = q at *
  obtain ⟨RB, hR9⟩ : ∃ RB : Nat → List Int, ∀ k, runBs l bs at_ a b k = RB k := ⟨_, fun _ => rfl⟩
  simp only [hR9] at *
  clear e0 hq f1 f2 k2
  refine EW.ytEnter (ws := [(.t 30, .v (.c (.v (.int .i64 (a : Int))))), (.t 31, .v (.c (.v (.int .i64 (b : Int))))), (.t 1, .v (.c (.p 1 0))), (.t 6, .v (.c (.p 2 0))), (.t 7, .v (.c (.p 3 0)))]) EW.sup1 rfl rfl EW.nlP rfl rfl rfl rfl rfl rfl ⟨rfl⟩ ?_; intro w0 tch ini nn R hR
  all_goals try (refine EW.nm ?_)
  all_goals try (refine EW.eReg (id := 8) ?_; refine EW.eAssign ?_; refine EW.eEnd ?_; (try refine EW.nm ?_))
  all_goals try (refine EW.eReg (id := 9) ?_; refine EW.eAssign ?_; refine EW.eEnd ?_; (try refine EW.nm ?_))
  all_goals try (refine EW.eBegin rfl rfl rfl rfl ?_)
  all_goals try (refine EW.nm ?_)
  all_goals try (refine EW.eReg (id := 10) ?_; refine EW.eLoad1 ?_; refine EW.eMove ?_; refine EW.eLoad1 ?_; refine EW.eSub ?_ (hr' := hwa); refine EW.eLoad1 ?_; (first | refine EW.eLenS ?_ | refine EW.eLenG ?_ | refine EW.eLenN ?_); (first | refine EW.eCallN [5, 6] Try.call33 (hS1) ?_ | refine EW.eCallN [5, 10] Try.call33 (hS2) ?_); refine EW.eEnd ?_; (try refine EW.nm ?_))
  all_goals try (refine EW.eReg (id := 11) ?_; refine EW.eLoad1 ?_; refine EW.eMove ?_; refine EW.eMove ?_; refine EW.eSub ?_ (hr' := hwb); refine EW.eLoad1 ?_; (first | refine EW.eLenS ?_ | refine EW.eLenG ?_ | refine EW.eLenN ?_); (first | refine EW.eCallN [5, 6] Try.call33 (hS1) ?_ | refine EW.eCallN [5, 10] Try.call33 (hS2) ?_); refine EW.eEnd ?_; (try refine EW.nm ?_))
  all_goals try (refine EW.eReg (id := 12) ?_; refine EW.eLoad1 ?_; refine EW.eMove ?_; refine EW.eMove ?_; refine EW.eSliceSub 9 (len' := b - a) ?_ hsb (e1 := ⟨by omega⟩) (e2 := ⟨by omega⟩); (first | refine EW.eLenS ?_ | refine EW.eLenG ?_ | refine EW.eLenN ?_); refine EW.eMove ?_; refine EW.eEnd ?_; (try refine EW.nm ?_))
  all_goals first | (fail_if_success (refine EW.eUnroll 1 ?_)) | (refine EW.eLoopD [1000005, 11, 51, 52, 53, 54, 55, 56, 57, 58] 20 (fun j : {k : Nat // k ≤ b - a} => [(.t 51, .v (.c (.v (.int .i64 j.1)))), (.b 5, .b (.m true (wcs 20 (RB j.1).length false))), (.l 20, .l true), (.b 20, .b (.w true (nums .u8 (RB j.1))))]) (fun j => b - a - j.1) (⟨0, by omega⟩) (by ((repeat (first | exact EW.subW.nil | refine EW.subW.cons rfl ?_ | refine EW.subW.conv rfl ?_ (by rfl) | refine EW.subW.conv rfl ?_)); (first | done | fail))) ?_; rintro hcl13 ⟨k, hk⟩; (try dsimp only))
  all_goals try (refine EW.nm ?_)
  all_goals try (refine EW.eReg (id := 13) ?_; refine EW.eLss ?_; refine EW.eEnd ?_; (try refine EW.nm ?_))
  all_goals try (first | refine EW.eYes (x := .tmp 52) ?_ | refine EW.eNo (x := .tmp 52) ?_ | (refine EW.eCond (x := .tmp 52) ?_ ?_ <;> (intro hb hb'; (try dsimp only at hb'); (try (exfalso; first | omega | with_reducible exact absurd rfl hb')))))
  all_goals try (refine EW.nm ?_)
  all_goals (try ((try dsimp only at hk); have hk2 : k < b - a := (by omega); have hpk := hpl k (by omega)))
  all_goals try (refine EW.eReg (id := 14) ?_; (first | refine EW.eIndexAddrS (z := 4) ?_ | refine EW.eIndexAddrG (z := 4) ?_); refine EW.eLoadA (k := 4) ?_; refine EW.eAlloc ?_; (first | refine EW.eStoreW (k := 4) ?_ | refine EW.eStore (k := 4) ?_); refine EW.eEnd ?_; (try refine EW.nm ?_))
  all_goals try (refine EW.eReg (id := 15) ?_; refine EW.eLoad1 ?_; refine EW.eLoadA (k := 4) ?_; refine EW.eCallN [5, 20] Try.call35 (hW k hk2) ?_; refine EW.eEnd ?_; (try refine EW.nm ?_))
  all_goals try (refine EW.eReg (id := 16) ?_; refine EW.eAdd ?_; refine EW.eMove ?_; refine EW.eEnd ?_; (try refine EW.nm ?_))
  all_goals first | (fail_if_success (with_reducible refine EW.isLater ?_)) | (refine EW.eLaterN (⟨k + 1, by omega⟩) [(20, 40)] (by dsimp only; omega) (by ((repeat (first | exact EW.subR.nil | refine EW.subR.l rfl ?_ | refine EW.subR.b rfl rfl ?_ | refine EW.subR.t rfl rfl ?_ | refine EW.subR.b rfl (by rfl) ?_ | refine EW.subR.t rfl (by rfl) ?_ | refine EW.subR.b rfl (by (first | exact EW.kvI (by first | omega | (dsimp only; omega)) | exact EW.kvG (by first | omega | (simp only [EW.nums_len, List.length_cons, List.length_nil, List.length_append, List.length_map, List.length_set, List.length_replicate, List.length_take, List.length_drop, List.length_range, EV.putL_length, Nat.reduceAdd, Nat.reduceMul, Nat.reduceSub]; omega)) (by first | omega | (simp only [EW.nums_len, List.length_cons, List.length_nil, List.length_append, List.length_map, List.length_set, List.length_replicate, List.length_take, List.length_drop, List.length_range, EV.putL_length, Nat.reduceAdd, Nat.reduceMul, Nat.reduceSub]; omega)) | exact EW.kvB (by simp [*]) | exact EW.kvW (by (first | rfl | simp)) | rfl)) ?_ | refine EW.subR.t rfl (by (first | exact EW.kvI (by first | omega | (dsimp only; omega)) | exact EW.kvG (by first | omega | (simp only [EW.nums_len, List.length_cons, List.length_nil, List.length_append, List.length_map, List.length_set, List.length_replicate, List.length_take, List.length_drop, List.length_range, EV.putL_length, Nat.reduceAdd, Nat.reduceMul, Nat.reduceSub]; omega)) (by first | omega | (simp only [EW.nums_len, List.length_cons, List.length_nil, List.length_append, List.length_map, List.length_set, List.length_replicate, List.length_take, List.length_drop, List.length_range, EV.putL_length, Nat.reduceAdd, Nat.reduceMul, Nat.reduceSub]; omega)) | exact EW.kvB (by simp [*]) | exact EW.kvW (by (first | rfl | simp)) | rfl)) ?_)); (first | done | fail))) (by (((repeat (first | with_reducible exact EW.Frm.refl | refine EW.Frm.upd ?_ rfl | refine EW.Frm.drp ?_ (by decide) rfl)); (first | done | fail)))) (by first | rfl | decide) (by (((repeat (first | exact True.intro | refine ⟨by (exact GV.no rfl rfl), ?_⟩)); (first | done | fail)))) (fun _ => rfl) hcl13 rfl (by ((first | (intro j n hn; cases hn; (first | done | fail)) | (intro n hn; cases hn; (first | done | fail)) | (intro j n hn; (repeat (first | (rcases List.mem_cons.1 hn with rfl | hn; (focus exact ⟨rfl, rfl⟩)) | (cases hn; (first | done | fail))))) | (intro n hn; (repeat (first | (rcases List.mem_cons.1 hn with rfl | hn; (focus exact ⟨rfl, rfl⟩)) | (cases hn; (first | done | fail)))))))))
  all_goals try (refine EW.nm ?_)
  all_goals try (refine EW.eReg (id := 17) ?_; refine EW.eMove ?_; (first | refine EW.eStoreW (k := 1) ?_ | refine EW.eStore (k := 1) ?_); refine EW.eEnd ?_; (try refine EW.nm ?_))
  all_goals try (refine EW.Park.mk ?_)
  all_goals ((try dsimp only at hk); obtain rfl : k = b - a := (by omega))
  all_goals (refine EW.eRoundEnd [20] hR rfl rfl rfl rfl ?_ rfl rfl EW.nlP rfl; (· ((repeat (first | exact EW.atE.nil | refine EW.atE.lt rfl ?_ | refine EW.atE.lf ?_ | refine EW.atE.b rfl EW.SameB.refl ?_ | (refine EW.atE.b rfl ?_ ?_; rotate_left 1))))))
end Go.Proofs.Ytnmkpekfkfckoaa
