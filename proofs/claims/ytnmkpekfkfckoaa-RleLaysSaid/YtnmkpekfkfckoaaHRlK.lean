/- rle: the document's Encode. -/
import Derived.Test.YtnmkpekfkfckoaaHRlJ
namespace Go.Proofs.Ytnmkpekfkfckoaa
set_option linter.unusedSimpArgs false
set_option linter.unusedVariables false
open Go.RowKit EV
open SX (Wr Tv Qu Rm Sh Is conjP eqs_iff eqs_false)
open EW (PlL PlT PlV PlVs LfV Mm Bt Opn GV YT lpOf nums)
set_option maxRecDepth 20000
theorem wr_sub {a b : Nat} (h : b ≤ a) (ha : a ≤ 1000000) : Wr .i64 ((a : Int) - (b : Int)) ((a - b : Nat) : Int) := by
  rw [show (a : Int) - (b : Int) = ((a - b : Nat) : Int) by omega]; exact Wr.i64 (by omega)
theorem wr_add {a b c : Nat} (h : a + b = c) (ha : c ≤ 1000000) : Wr .i64 ((a : Int) + (b : Int)) (c : Int) := by
  rw [show (a : Int) + (b : Int) = (c : Int) by omega]; exact Wr.i64 (by omega)
/-- What a round of the document's loop writes. -/
structure Rd (l : List Px) (at_ : Nat) (bs Z : List Int) (ra rb : Nat) (R : Nat → List Int) : Prop where
  h1 : at_ ≤ ra
  h2 : ra < rb
  h3 : rb ≤ l.length
  s1 : CT Try.prog 38 [.c (.p 0 0), .c (.v (.int .i64 ((ra - at_ : Nat) : Int))), .c (.v (.int .i64 ((l.length - at_ : Nat) : Int)))] (upd EW.emp (WV bs false)) 2 3 (.t []) (upd (upd EW.emp (WV bs false)) (Vmore (bs ++ formN (ra - at_))))
  s2 : CT Try.prog 38 [.c (.p 0 0), .c (.v (.int .i64 ((rb - ra : Nat) : Int))), .c (.v (.int .i64 ((l.length - ra : Nat) : Int)))] (upd EW.emp (WV (bs ++ formN (ra - at_)) false)) 2 3 (.t []) (upd (upd EW.emp (WV (bs ++ formN (ra - at_)) false)) (Vmore (R 0)))
  pw : ∀ k, k < rb - ra → CT Try.prog 40 [.c (.p 0 0), .a (pcl (l.getD (ra + k) Px.zero).z (l.getD (ra + k) Px.zero).o (l.getD (ra + k) Px.zero).t (l.getD (ra + k) Px.zero).c)] (upd EW.emp (WV (R k) false)) 2 3 (.c (.v (.int .i64 0))) (upd (upd EW.emp (WV (R k) false)) (Vmore (R (k + 1))))
  e : R (rb - ra) ++ encB l rb = Z
  ln : ∀ k, k ≤ rb - ra → (R k).length ≤ 40 + 60 * at_ + 40 * k
theorem rd_any {l : List Px} (hg : Gd l) {at_ : Nat} {bs Z : List Int} (ha : at_ < l.length) (hr : runA l at_ < l.length) (hbs : bs.length ≤ 20 + 60 * at_) (he : bs ++ encB l at_ = Z) : ∃ R, Rd l at_ bs Z (runA l at_) (runB l at_) R := by
  have hl := hg.sp.1
  have h1 := runA_le (Nat.le_of_lt ha)
  have h2 := runB_gt hr
  rw [encB_run ha hr] at he
  generalize runA l at_ = a at *
  generalize runB l at_ = b at *
  have f1 := formN_10 (n := a - at_) (by omega)
  have f2 := formN_10 (n := b - a) (by omega)
  have k1 : (bs ++ formN (a - at_)).length ≤ 30 + 60 * at_ := by rw [List.length_append]; omega
  have k2 : (bs ++ formN (a - at_) ++ formN (b - a)).length ≤ 40 + 60 * at_ := by rw [List.length_append]; omega
  have hpl : ∀ k, k ≤ b - a → (runBs l bs at_ a b k).length ≤ 40 + 60 * at_ + 40 * k := fun k hk => by
    have := pixB_gd hg (a := a) (k := k) (by omega)
    rw [List.length_append]; omega
  refine ⟨runBs l bs at_ a b, h1.1, h2.1, h2.2, vsmall_ok (a - at_) _ bs (by omega) (by omega) (by omega), ?_, fun k hk => ?_, ?_, hpl⟩
  · have := vsmall_ok (b - a) ((l.length - a : Nat) : Int) (bs ++ formN (a - at_)) (by omega) (by omega) (by omega)
    rwa [runBs, pixB_0, List.append_nil]
  · have hp := hpl k (by omega)
    have := dwrite_y (l.getD (a + k) Px.zero) (runBs l bs at_ a b k) (hg.sp.2 _ (by omega)) (hg.wf _ (by omega)) (by omega)
    rwa [List.append_assoc, pixB_next (by omega)] at this
  · rw [← he]; simp only [runBs, List.append_assoc]
set_option maxHeartbeats 4000000 in
theorem denc_y (o : Bool) (l : List Px) (hg : Gd l) : EncR 14 o l (sealL (rleB l)) 0 := by
  have hl := hg.sp.1
  have hO := span_y o l hg.sp
  have f1 := formN_10 (n := l.length) (by omega)
  have hS1 := vsmall_ok l.length 4096 [] (by omega) (by omega) (by simp)
  have hle := rleB_le hg
  have hSe := dseal true (rleB l) (rleB_by l) (by omega)
  rw [List.nil_append] at hS1
  have h0 : formN l.length ++ encB l 0 = rleB l := rfl
  generalize rleB l = Z at *
  generalize formN l.length = F0 at *
  refine EW.ctEnter EW.sup1 Try.func14 rfl Try.ntmps14 rfl EW.nlP ?_; intro w0 tch ini R hR
  all_goals try (refine EW.nm ?_)
  all_goals try (refine EW.eReg (id := 0) ?_; refine EW.eAssign ?_; refine EW.eAssign ?_; refine EW.eEnd ?_; (try refine EW.nm ?_))
  all_goals try (refine EW.eReg (id := 1) ?_; refine EW.eMove ?_; refine EW.eCallN [0] Try.call37 (hO) ?_; refine EW.eAssign ?_; refine EW.eEnd ?_; (try refine EW.nm ?_))
  all_goals try (refine EW.eReg (id := 2) ?_; refine EW.eMove ?_; refine EW.eNot ?_; refine EW.eEnd ?_; (try refine EW.nm ?_))
  all_goals try (first | refine EW.eYes (x := .tmp 12) ?_ | refine EW.eNo (x := .tmp 12) ?_ | (refine EW.eCond (x := .tmp 12) ?_ ?_ <;> (intro hb hb'; (try dsimp only at hb'); (try (exfalso; first | omega | with_reducible exact absurd rfl hb')))))
  all_goals try (refine EW.nm ?_)
  all_goals try (refine EW.eReg (id := 3) ?_; refine EW.eAssign ?_; refine EW.eAssign ?_; refine EW.eEnd ?_; (try refine EW.nm ?_))
  all_goals try (with_reducible refine EW.parkK ?_)
  all_goals try (refine EW.eReg (id := 4) ?_; refine EW.eBuild (place := fun i => [(0, 1), (1, 1)][i]?) ?_; refine EW.eBox ?_; refine EW.eAssign ?_; refine EW.eEnd ?_; (try refine EW.nm ?_))
  all_goals (refine EW.eNilB 20 0 21 1 (l' := vcs 21 0 false) ?_)
  all_goals try (refine EW.eReg (id := 5) ?_; refine EW.eMove ?_; refine EW.eMove ?_; (first | refine EW.eLenS ?_ | refine EW.eLenG ?_ | refine EW.eLenN ?_); (first | refine EW.eCallN [20, 21] Try.call38 (hS1) ?_ | refine EW.eCallN [20, 30] Try.call38 (d1) ?_ | refine EW.eCallN [20, 50] Try.call38 (d2) ?_); refine EW.eEnd ?_; (try refine EW.nm ?_))
  all_goals try (refine EW.eReg (id := 6) ?_; refine EW.eAssign ?_; refine EW.eEnd ?_; (try refine EW.nm ?_))
  all_goals first | (fail_if_success (refine EW.eUnroll 1 ?_)) | (refine EW.eLoopD [1000020, 6, 7, 8, 19, 20, 21, 22, 23, 24, 25, 26, 27, 28, 29, 30, 31, 32, 33, 34, 35, 36, 37, 38, 39, 40, 41, 42, 43, 44, 45, 46, 47, 48, 49, 50, 51, 52, 53, 54, 55, 56, 57, 58, 59, 60, 61, 62, 63, 64, 65] 30 (fun x : {x : Nat × List Int // x.1 ≤ l.length ∧ x.2 ++ encB l x.1 = Z ∧ x.2.length ≤ 20 + 60 * x.1} => [(.t 6, .v (.c (.v (.int .i64 (x.1.1 : Int))))), (.b 20, .b (.m true (vcs 30 x.1.2.length false))), (.l 30, .l true), (.b 30, .b (.w true (nums .u8 x.1.2)))]) (fun x => l.length - x.1.1) (⟨(0, F0), Nat.zero_le _, h0, by dsimp only; omega⟩) (by ((repeat (first | exact EW.subW.nil | refine EW.subW.cons rfl ?_ | refine EW.subW.conv rfl ?_ (by rfl) | refine EW.subW.conv rfl ?_)); (first | done | fail))) ?_; rintro hcl7 ⟨⟨to, o9⟩, hto, ho, hol⟩; (try dsimp only))
  all_goals try (refine EW.nm ?_)
  all_goals try (refine EW.eReg (id := 7) ?_; refine EW.eMove ?_; refine EW.eMove ?_; (first | refine EW.eLenS ?_ | refine EW.eLenG ?_ | refine EW.eLenN ?_); refine EW.eLss ?_; refine EW.eEnd ?_; (try refine EW.nm ?_))
  all_goals try (first | refine EW.eYes (x := .tmp 22) ?_ | refine EW.eNo (x := .tmp 22) ?_ | (refine EW.eCond (x := .tmp 22) ?_ ?_ <;> (intro hb hb'; (try dsimp only at hb'); (try (exfalso; first | omega | with_reducible exact absurd rfl hb')))))
  all_goals try (refine EW.nm ?_)
  all_goals (try ((try dsimp only at hto ho hol); have hlt : to < l.length := (by omega); have hE8 := dsame_e o l to (by omega) (by omega); have hge := runA_le hto; have hra : to + skipE (l.drop to) = runA l to := rfl; generalize skipE (l.drop to) = s at *; have hw1 := wr_sub hto (by omega); have hw2 := wr_add hra (by omega); rcases Nat.lt_or_ge (runA l to) l.length with hr | hr; (obtain ⟨RB, hd⟩ := rd_any hg hlt hr hol ho; have hS8 := dsame_s o l (runA l to) (by omega) (by omega); have hrb : runA l to + skipS (l.drop (runA l to)) = runB l to := rfl; generalize runA l to = ra at *; generalize runB l to = rb at *; have c1 := hd.h1; have c2 := hd.h2; have c3 := hd.h3; have d1 := hd.s1; have d2 := hd.s2; have d3 := hd.ln; rw [show ra - to = s by omega] at d1; rw [show ra - to = s by omega] at d2; generalize skipS (l.drop ra) = s2 at *; rw [show rb - ra = s2 by omega] at d2; rw [show rb - ra = s2 by omega] at d3; have hw3 := wr_sub (a := l.length) (b := ra) (by omega) (by omega); have hw4 := wr_add hrb (by omega)); rotate_left; (rw [encB_last hlt (by omega)] at ho; have d1 := vsmall_ok s ((l.length - to : Nat) : Int) o9 (by omega) (by omega) (by omega); rw [show l.length - to = s by omega] at ho; rw [ho] at d1); rotate_left))
  all_goals try (refine EW.eReg (id := 8) ?_; refine EW.eMove ?_; refine EW.eMove ?_; (first | refine EW.eCallN [0] Try.call39 (hE8) ?_ | refine EW.eCallN [0] Try.call39 (hS8) ?_); refine EW.eAssign ?_; refine EW.eEnd ?_; (try refine EW.nm ?_))
  all_goals try (refine EW.eReg (id := 9) ?_; refine EW.eMove ?_; refine EW.eMove ?_; refine EW.eMove ?_; (first | refine EW.eLenS ?_ | refine EW.eLenG ?_ | refine EW.eLenN ?_); refine EW.eMove ?_; refine EW.eSub ?_ (hr' := hw1); (first | refine EW.eCallN [20, 21] Try.call38 (hS1) ?_ | refine EW.eCallN [20, 30] Try.call38 (d1) ?_ | refine EW.eCallN [20, 50] Try.call38 (d2) ?_); refine EW.eEnd ?_; (try refine EW.nm ?_))
  all_goals try (refine EW.eReg (id := 10) ?_; refine EW.eMove ?_; refine EW.eMove ?_; refine EW.eAdd ?_ (hr' := hw2); refine EW.eAssign ?_; refine EW.eEnd ?_; (try refine EW.nm ?_))
  all_goals try (refine EW.eReg (id := 11) ?_; refine EW.eMove ?_; refine EW.eMove ?_; (first | refine EW.eLenS ?_ | refine EW.eLenG ?_ | refine EW.eLenN ?_); refine EW.eEql ?_; refine EW.eEnd ?_; (try refine EW.nm ?_))
  all_goals try (first | refine EW.eYes (x := .tmp 39) ?_ | refine EW.eNo (x := .tmp 39) ?_ | (refine EW.eCond (x := .tmp 39) ?_ ?_ <;> (intro hb hb'; (try dsimp only at hb'); (try (exfalso; first | omega | with_reducible exact absurd rfl hb')))))
  all_goals try (refine EW.nm ?_)
  all_goals try (refine EW.eReg (id := 12) ?_; refine EW.eMove ?_; refine EW.eMove ?_; (first | refine EW.eCallN [0] Try.call39 (hE8) ?_ | refine EW.eCallN [0] Try.call39 (hS8) ?_); refine EW.eAssign ?_; refine EW.eEnd ?_; (try refine EW.nm ?_))
  all_goals try (refine EW.eReg (id := 13) ?_; refine EW.eMove ?_; refine EW.eMove ?_; refine EW.eMove ?_; (first | refine EW.eLenS ?_ | refine EW.eLenG ?_ | refine EW.eLenN ?_); refine EW.eMove ?_; refine EW.eSub ?_ (hr' := hw3); (first | refine EW.eCallN [20, 21] Try.call38 (hS1) ?_ | refine EW.eCallN [20, 30] Try.call38 (d1) ?_ | refine EW.eCallN [20, 50] Try.call38 (d2) ?_); refine EW.eEnd ?_; (try refine EW.nm ?_))
  all_goals try (refine EW.eReg (id := 14) ?_; refine EW.eAssign ?_; refine EW.eEnd ?_; (try refine EW.nm ?_))
  all_goals first | (fail_if_success (refine EW.eUnroll 1 ?_)) | (refine EW.eLoopD [1000020, 8, 50, 51, 52, 53, 54, 55, 56, 57, 58, 59, 60, 61, 62] 70 (fun j : {k : Nat // k ≤ s2} => [(.t 8, .v (.c (.v (.int .i64 j.1)))), (.b 20, .b (.m true (vcs 70 (RB j.1).length false))), (.l 70, .l true), (.b 70, .b (.w true (nums .u8 (RB j.1))))]) (fun j => s2 - j.1) (⟨0, by omega⟩) (by ((repeat (first | exact EW.subW.nil | refine EW.subW.cons rfl ?_ | refine EW.subW.conv rfl ?_ (by rfl) | refine EW.subW.conv rfl ?_)); (first | done | fail))) ?_; rintro hcl15 ⟨k, hk⟩; (try dsimp only))
  all_goals try (refine EW.nm ?_)
  all_goals try (refine EW.eReg (id := 15) ?_; refine EW.eMove ?_; refine EW.eMove ?_; refine EW.eLss ?_; refine EW.eEnd ?_; (try refine EW.nm ?_))
  all_goals try (first | refine EW.eYes (x := .tmp 52) ?_ | refine EW.eNo (x := .tmp 52) ?_ | (refine EW.eCond (x := .tmp 52) ?_ ?_ <;> (intro hb hb'; (try dsimp only at hb'); (try (exfalso; first | omega | with_reducible exact absurd rfl hb')))))
  all_goals try (refine EW.nm ?_)
  all_goals (try ((try dsimp only at hk); have hk2 : k < s2 := (by omega); have hpk := d3 k (by omega); have hpw := hd.pw k (by omega); have hw5 := wr_add (a := ra) (b := k) rfl (by omega)))
  all_goals try (refine EW.eReg (id := 17) ?_; refine EW.eMove ?_; refine EW.eMove ?_; refine EW.eMove ?_; refine EW.eMove ?_; refine EW.eAdd ?_ (hr' := hw5); (first | refine EW.eIndexAddrS (z := 4) ?_ | refine EW.eIndexAddrG (z := 4) ?_); refine EW.eLoadA (k := 4) ?_; refine EW.eCallN [20, 70] Try.call40 (hpw) ?_; refine EW.eEnd ?_; (try refine EW.nm ?_))
  all_goals try (refine EW.eReg (id := 16) ?_; refine EW.eMove ?_; refine EW.eAdd ?_; refine EW.eAssign ?_; refine EW.eEnd ?_; (try refine EW.nm ?_))
  all_goals first | (fail_if_success (with_reducible refine EW.isLater ?_)) | (refine EW.eLaterN (⟨k + 1, by omega⟩) [(70, 80)] (by dsimp only; omega) (by ((repeat (first | exact EW.subR.nil | refine EW.subR.l rfl ?_ | refine EW.subR.b rfl rfl ?_ | refine EW.subR.t rfl rfl ?_ | refine EW.subR.b rfl (by rfl) ?_ | refine EW.subR.t rfl (by rfl) ?_ | refine EW.subR.b rfl (by (first | exact EW.kvI (by first | omega | (dsimp only; omega)) | exact EW.kvG (by first | omega | (simp only [EW.nums_len, List.length_cons, List.length_nil, List.length_append, List.length_map, List.length_set, List.length_replicate, List.length_take, List.length_drop, List.length_range, EV.putL_length, Nat.reduceAdd, Nat.reduceMul, Nat.reduceSub]; omega)) (by first | omega | (simp only [EW.nums_len, List.length_cons, List.length_nil, List.length_append, List.length_map, List.length_set, List.length_replicate, List.length_take, List.length_drop, List.length_range, EV.putL_length, Nat.reduceAdd, Nat.reduceMul, Nat.reduceSub]; omega)) | exact EW.kvB (by simp [*]) | exact EW.kvW (by (first | rfl | simp)) | rfl)) ?_ | refine EW.subR.t rfl (by (first | exact EW.kvI (by first | omega | (dsimp only; omega)) | exact EW.kvG (by first | omega | (simp only [EW.nums_len, List.length_cons, List.length_nil, List.length_append, List.length_map, List.length_set, List.length_replicate, List.length_take, List.length_drop, List.length_range, EV.putL_length, Nat.reduceAdd, Nat.reduceMul, Nat.reduceSub]; omega)) (by first | omega | (simp only [EW.nums_len, List.length_cons, List.length_nil, List.length_append, List.length_map, List.length_set, List.length_replicate, List.length_take, List.length_drop, List.length_range, EV.putL_length, Nat.reduceAdd, Nat.reduceMul, Nat.reduceSub]; omega)) | exact EW.kvB (by simp [*]) | exact EW.kvW (by (first | rfl | simp)) | rfl)) ?_)); (first | done | fail))) (by (((repeat (first | with_reducible exact EW.Frm.refl | refine EW.Frm.upd ?_ rfl | refine EW.Frm.drp ?_ (by decide) rfl)); (first | done | fail)))) (by first | rfl | decide) (by (((repeat (first | exact True.intro | refine ⟨by (exact GV.no rfl rfl), ?_⟩)); (first | done | fail)))) (fun _ => rfl) hcl15 rfl (by ((first | (intro j n hn; cases hn; (first | done | fail)) | (intro n hn; cases hn; (first | done | fail)) | (intro j n hn; (repeat (first | (rcases List.mem_cons.1 hn with rfl | hn; (focus exact ⟨rfl, rfl⟩)) | (cases hn; (first | done | fail))))) | (intro n hn; (repeat (first | (rcases List.mem_cons.1 hn with rfl | hn; (focus exact ⟨rfl, rfl⟩)) | (cases hn; (first | done | fail)))))))))
  all_goals try (refine EW.nm ?_)
  all_goals (try ((try dsimp only at hk); obtain rfl : k = s2 := (by omega); have he := hd.e; have hln := hd.ln k (by omega); rw [show rb - ra = k by omega] at he))
  all_goals try (refine EW.eReg (id := 18) ?_; refine EW.eMove ?_; refine EW.eMove ?_; refine EW.eAdd ?_ (hr' := hw4); refine EW.eAssign ?_; refine EW.eEnd ?_; (try refine EW.nm ?_))
  all_goals first | (fail_if_success (with_reducible refine EW.isLater ?_)) | (refine EW.eLaterN (⟨(rb, RB k), by dsimp only; omega, he, by dsimp only; omega⟩) [(30, 70)] (by dsimp only; omega) (by ((repeat (first | exact EW.subR.nil | refine EW.subR.l rfl ?_ | refine EW.subR.b rfl rfl ?_ | refine EW.subR.t rfl rfl ?_ | refine EW.subR.b rfl (by rfl) ?_ | refine EW.subR.t rfl (by rfl) ?_ | refine EW.subR.b rfl (by (first | exact EW.kvI (by first | omega | (dsimp only; omega)) | exact EW.kvG (by first | omega | (simp only [EW.nums_len, List.length_cons, List.length_nil, List.length_append, List.length_map, List.length_set, List.length_replicate, List.length_take, List.length_drop, List.length_range, EV.putL_length, Nat.reduceAdd, Nat.reduceMul, Nat.reduceSub]; omega)) (by first | omega | (simp only [EW.nums_len, List.length_cons, List.length_nil, List.length_append, List.length_map, List.length_set, List.length_replicate, List.length_take, List.length_drop, List.length_range, EV.putL_length, Nat.reduceAdd, Nat.reduceMul, Nat.reduceSub]; omega)) | exact EW.kvB (by simp [*]) | exact EW.kvW (by (first | rfl | simp)) | rfl)) ?_ | refine EW.subR.t rfl (by (first | exact EW.kvI (by first | omega | (dsimp only; omega)) | exact EW.kvG (by first | omega | (simp only [EW.nums_len, List.length_cons, List.length_nil, List.length_append, List.length_map, List.length_set, List.length_replicate, List.length_take, List.length_drop, List.length_range, EV.putL_length, Nat.reduceAdd, Nat.reduceMul, Nat.reduceSub]; omega)) (by first | omega | (simp only [EW.nums_len, List.length_cons, List.length_nil, List.length_append, List.length_map, List.length_set, List.length_replicate, List.length_take, List.length_drop, List.length_range, EV.putL_length, Nat.reduceAdd, Nat.reduceMul, Nat.reduceSub]; omega)) | exact EW.kvB (by simp [*]) | exact EW.kvW (by (first | rfl | simp)) | rfl)) ?_)); (first | done | fail))) (by (((repeat (first | with_reducible exact EW.Frm.refl | refine EW.Frm.upd ?_ rfl | refine EW.Frm.drp ?_ (by decide) rfl)); (first | done | fail)))) (by first | rfl | decide) (by (((repeat (first | exact True.intro | refine ⟨by (exact GV.no rfl rfl), ?_⟩)); (first | done | fail)))) (fun _ => rfl) hcl7 rfl (by ((first | (intro j n hn; cases hn; (first | done | fail)) | (intro n hn; cases hn; (first | done | fail)) | (intro j n hn; (repeat (first | (rcases List.mem_cons.1 hn with rfl | hn; (focus exact ⟨rfl, rfl⟩)) | (cases hn; (first | done | fail))))) | (intro n hn; (repeat (first | (rcases List.mem_cons.1 hn with rfl | hn; (focus exact ⟨rfl, rfl⟩)) | (cases hn; (first | done | fail)))))))))
  all_goals try (refine EW.nm ?_)
  all_goals (try ((try dsimp only at hto ho hol); have hte : to = l.length := (by omega); rw [encB_end (by omega), List.append_nil] at ho; subst ho))
  all_goals try (refine EW.eReg (id := 19) ?_; refine EW.eMove ?_; (first | refine EW.eNil ?_ | refine EW.eNilF ?_ | refine EW.eNilY ?_ | refine EW.eNilP ?_); refine EW.eFieldAddr (k := 1) ?_; refine EW.eLoad1 ?_; (first | refine EW.eCallN [30] Try.call41 (hSe) ?_ | refine EW.eCallN [50] Try.call41 (hSe) ?_); refine EW.eAssign ?_; refine EW.eAssign ?_; refine EW.eEnd ?_; (try refine EW.nm ?_))
  all_goals try (with_reducible refine EW.parkK ?_)
  all_goals try (refine EW.Park.mk ?_)
  all_goals first | (refine EW.eLeaveN [40] hR EW.orP (by rfl) (by rfl) ?_ ?_ rfl rfl EW.nlP rfl rfl; rotate_left 1; (· ((repeat (first | exact EW.atE.nil | refine EW.atE.lt rfl ?_ | refine EW.atE.lf ?_ | refine EW.atE.b rfl EW.SameB.refl ?_ | (refine EW.atE.b rfl ?_ ?_; rotate_left 1)))))) | (refine EW.eLeaveN [60] hR EW.orP (by rfl) (by rfl) ?_ ?_ rfl rfl EW.nlP rfl rfl; rotate_left 1; (· ((repeat (first | exact EW.atE.nil | refine EW.atE.lt rfl ?_ | refine EW.atE.lf ?_ | refine EW.atE.b rfl EW.SameB.refl ?_ | (refine EW.atE.b rfl ?_ ?_; rotate_left 1))))))
  all_goals rfl
end Go.Proofs.Ytnmkpekfkfckoaa
