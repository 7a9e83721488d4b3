/- rle: the document's Decode: the walk. -/
import Derived.Test.YtnmkpekfkfckoaaHRlM
namespace Go.Proofs.Ytnmkpekfkfckoaa
set_option linter.unusedSimpArgs false
set_option linter.unusedVariables false
open Go.RowKit EV
open SX (Wr Tv Qu Rm Sh Is conjP eqs_iff eqs_false)
open EW (PlL PlT PlV PlVs LfV Mm Bt Opn GV YT lpOf nums)
set_option maxRecDepth 20000
abbrev SmC (bs : List Int) (m p s p1 : Nat) (l1 : Bool) : Prop := CT Try.prog 47 [.c (.p 0 0), .c (.v (.int .i64 ((m : Nat) : Int)))] (upd EW.emp (WD true bs p false)) 2 2 (.c (.v (.int .i64 ((s : Nat) : Int)))) (upd (upd EW.emp (WD true bs p false)) (DC bs p1 l1))
theorem dmn_grow {bs : List Int} {c i p q : Nat} {ps r : List Px} {l f : Bool} (h : DMn bs c i ps p l r q f) : ps.length ≤ r.length := by
  induction h with
  | lost _ => exact Nat.le_refl _
  | done => exact Nat.le_refl _
  | bad _ _ _ => rw [List.length_append]; omega
  | next _ _ _ _ _ _ ih => rw [List.length_append] at ih; omega
theorem DRun.step {bs : List Int} {n p rp n8 : Nat} {ps rl : List Px} {rf : Bool} (hy : By bs) (hl : bs.length ≤ 1000000) (hn : n ≤ 4096) (hp : p ≤ bs.length) (hD : DRun bs n ps p false rl rp rf) (h8 : ps.length = n8) (hlt : n8 < n) :
    ∃ s p1 l1, s ≤ n - n8 ∧ p1 ≤ bs.length ∧ SmC bs (n - n8) p s p1 l1 ∧ (
      (l1 = true ∧ s = 0 ∧ rl = wE ps s ∧ rp = p1 ∧ rf = true)
      ∨ (l1 = false ∧ n8 + s = n ∧ rl = wE ps s ∧ rp = p1 ∧ rf = false)
      ∨ (l1 = false ∧ n8 + s < n ∧ ∃ m p2 l2, m ≤ n - (n8 + s) ∧ p2 ≤ bs.length ∧ SmC bs (n - (n8 + s)) p1 m p2 l2 ∧ ∃ r q f f', q ≤ bs.length ∧ DMn bs m 0 (wE ps s) p2 l2 r q f ∧ r.length ≤ n ∧ (f || decide (s + m = 0)) = f' ∧ (f' = false → n8 < r.length) ∧ n8 ≤ r.length ∧ DRun bs n r q f' rl rp rf)) := by
  subst h8
  rcases hD.inv hlt with ⟨i1, i2, i3, i4⟩ | ⟨s, k, i1, i0, i6, h⟩
  · exact ⟨0, p, true, by omega, hp, dsmallN hy hl hp (by omega) i1, .inl ⟨rfl, rfl, by rw [wE_0, i2], i3, i4⟩⟩
  · refine ⟨s, p + k, false, i6, i0, dsmallY hy hl hp (by omega) i1 i6, .inr ?_⟩
    rcases h with ⟨j1, j2, j3, j4⟩ | ⟨j1, j2, j3, j4, j5⟩ | ⟨j1, m, k3, r, q, f, j2, j3, j4, j5, j6, j7, j8, j9⟩
    · exact .inl ⟨rfl, j1, j2, j3, j4⟩
    · refine .inr ⟨rfl, j1, 0, p + k, true, by omega, i0, dsmallN hy hl i0 (by omega) j2, wE ps s, p + k, true, true, i0, .lost (Nat.le_refl _), (by rw [wE_len]; omega), rfl, (fun h => (by cases h)), (by rw [wE_len]; omega), ?_⟩
      rw [j3, j4, j5]; exact .lost
    · refine .inr ⟨rfl, j1, m, p + k + k3, false, j4, j3, dsmallY hy hl i0 (by omega) j2 j4, r, q, f, _, j6, j5, j7, rfl, fun h => ?_, ?_, j9⟩
      · simp only [Bool.or_eq_false_iff, decide_eq_false_iff_not] at h
        have := j8 h.1; omega
      · have := dmn_grow j5
        rw [wE_len] at this; omega
abbrev EncN (N : Nat) (l : List Px) (r : List Int) (e : Int) : Prop := CT Try.prog 14 [.c (.g 0 0 N N 4)] (upd EW.emp (WP true l)) 1 2 (.t [.inl (.g 1 0 r.length r.length 1), .inl (.v (.int .i64 e))]) (upd (upd EW.emp (WP true l)) [(.l 1, .l true), (.b 1, .b (.w true (nums .u8 r)))])
abbrev dcsN (m n p : Nat) (lost : Bool) : List C := [.g m 0 n n 1, .v (.int .i64 (p : Int)), .v (.bool lost)]
abbrev meas (n q : Nat) (l : Bool) : Nat := 2 * (n - q) + (bif l then 0 else 1)
set_option maxHeartbeats 4000000 in
theorem ddec_any (B bs : List Int) (n k : Nat) (rl : List Px) (rp : Nat) (rf : Bool) (r2 : List Int) (e2 : Int) (R : List Px) (E e9 : Int) (l0 : Bool) (hy : By bs) (hl : bs.length ≤ 800000) (hBy : By B) (hr2 : By r2) (hr2l : r2.length ≤ 900000) (hBl : B.length ≤ 900000) (hO : OpenR 46 false B bs 0) (hS : SmC bs 4096 0 n k l0) (hn : n ≤ 4096) (hk : k ≤ bs.length) (hD9 : DRun bs n [] k l0 rl rp rf) (hEnc : ∀ N, rl.length = N → EncN N rl r2 e2)
    (hE : CT Try.prog 49 [.c (.p 0 0)] (upd EW.emp (WD true bs rp rf)) 2 2 (.c (.v (.int .i64 e9))) (upd (upd EW.emp (WD true bs rp rf)) []))
    (h9 : (e9 = 50 ∧ R = [] ∧ E = 160) ∨ (e9 = 0 ∧ Tv (!(U r2 == U B)) false ∧ R = rl ∧ E = 0) ∨ (e9 = 0 ∧ Tv (!(U r2 == U B)) true ∧ R = [] ∧ E = 160)) : DecR 21 false B R E := by
  refine EW.ctEnter EW.sup1 Try.func21 rfl Try.ntmps21 rfl EW.nlP ?_; intro w0 tch ini R hR
  all_goals try (refine EW.nm ?_)
  all_goals try (refine EW.eReg (id := 0) ?_; refine EW.eAssign ?_; refine EW.eAssign ?_; refine EW.eEnd ?_; (try refine EW.nm ?_))
  all_goals try (refine EW.eReg (id := 1) ?_; refine EW.eMove ?_; refine EW.eCallN [0] Try.call46 (hO) ?_; refine EW.eMove ?_; (first | refine EW.eExtC ?_ | refine EW.eExtA ?_); (first | refine EW.eExtC ?_ | refine EW.eExtA ?_); refine EW.eAssign ?_; refine EW.eAssign ?_; refine EW.eEnd ?_; (try refine EW.nm ?_))
  all_goals try (refine EW.eReg (id := 2) ?_; refine EW.eMove ?_; refine EW.eNeq ?_; refine EW.eEnd ?_; (try refine EW.nm ?_))
  all_goals try (first | refine EW.eYes (x := .tmp 23) ?_ | refine EW.eNo (x := .tmp 23) ?_ | (refine EW.eCond (x := .tmp 23) ?_ ?_ <;> (intro hb hb'; (try dsimp only at hb'); (try (exfalso; first | omega | with_reducible exact absurd rfl hb')))))
  all_goals try (refine EW.nm ?_)
  all_goals try (refine EW.eReg (id := 3) ?_; refine EW.eAssign ?_; refine EW.eAssign ?_; refine EW.eEnd ?_; (try refine EW.nm ?_))
  all_goals try (with_reducible refine EW.parkK ?_)
  all_goals try (refine EW.eReg (id := 4) ?_; refine EW.eMove ?_; refine EW.eBuild (place := fun i => [(0, 1), (1, 1), (2, 1)][i]?) ?_; refine EW.eBox ?_; refine EW.eAssign ?_; refine EW.eEnd ?_; (try refine EW.nm ?_))
  all_goals try (refine EW.eReg (id := 5) ?_; refine EW.eMove ?_; (first | refine EW.eCallN [20, 10] Try.call47 (hS) ?_ | refine EW.eCallN [20, 10] Try.call47 (hS2) ?_ | refine EW.eCallN [20, 10] Try.call47 (hS3) ?_); refine EW.eAssign ?_; refine EW.eEnd ?_; (try refine EW.nm ?_))
  all_goals try (refine EW.eReg (id := 6) ?_; refine EW.eAssign ?_; refine EW.eEnd ?_; (try refine EW.nm ?_))
  all_goals first | (fail_if_success (refine EW.eUnroll 1 ?_)) | (refine EW.eNilG 8 31 4 ?_)
  all_goals first | (fail_if_success (refine EW.eUnroll 1 ?_)) | (refine EW.eLoopD [1000020, 8, 9, 10, 11, 12, 13, 29, 30, 31, 32, 33, 34, 35, 36, 37, 38, 39, 40, 41, 42, 43, 44, 45, 46, 47, 48, 49, 50, 51, 52, 53, 54, 55, 56, 57, 58, 59, 60, 61, 62, 63, 64, 65, 66, 67, 68, 69, 70, 71, 72, 73, 74, 75, 76, 77, 78, 79, 80, 81, 82, 83, 84, 85, 86, 87, 88, 89, 90, 91, 92, 93, 94, 95, 96, 97, 98, 99, 100, 101] 31 (fun x : {x : List Px × Nat × Nat × Bool // DRun bs n x.1 x.2.1 x.2.2.2 rl rp rf ∧ x.1.length = x.2.2.1 ∧ x.2.1 ≤ bs.length ∧ x.2.2.1 ≤ n} => [(.t 8, .v (.c (.g 31 0 x.1.2.2.1 x.1.2.2.1 4))), (.l 31, .l true), (.b 31, .b (.w true (pvs x.1.1))), (.b 20, .b (.m true (dcsN 10 bs.length x.1.2.1 x.1.2.2.2)))]) (fun x => meas n x.1.2.2.1 x.1.2.2.2) (⟨([], k, 0, l0), hD9, rfl, hk, Nat.zero_le _⟩) (by ((repeat (first | exact EW.subW.nil | refine EW.subW.cons rfl ?_ | refine EW.subW.conv rfl ?_ (by rfl) | refine EW.subW.conv rfl ?_)); (first | done | fail))) ?_; rintro hcl7 ⟨⟨ps, py, n8, lost⟩, hD, hlen, hpy, h8n⟩; (try dsimp only))
  all_goals try (refine EW.nm ?_)
  all_goals (try ((try dsimp only at hD hlen hpy h8n); cases lost))
  all_goals try (refine EW.eReg (id := 7) ?_; refine EW.eMove ?_; (first | refine EW.eLenS ?_ | refine EW.eLenG ?_ | refine EW.eLenN ?_); refine EW.eMove ?_; refine EW.eLss ?_; refine EW.eMove ?_)
  all_goals try (refine EW.eGuard (j := 4) (o := ⟨some 34, _, _, _, _, _⟩) ?_ ?_ <;> (intro hb hb'; (try dsimp only at hb'); (try (exfalso; first | omega | with_reducible exact absurd rfl hb'))))
  all_goals try ((first | refine EW.eSkipT (j := 4) ?_ | refine EW.eSkipU (j := 4) ?_ | refine EW.eMove ?_); (first | refine EW.eSkipT (j := 4) ?_ | refine EW.eSkipU (j := 4) ?_ | refine EW.eNil ?_ | refine EW.eNilF ?_ | refine EW.eNilY ?_ | refine EW.eNilP ?_); (first | refine EW.eSkipT (j := 4) ?_ | refine EW.eSkipU (j := 4) ?_ | refine EW.eFieldAddr (k := 1) ?_); (first | refine EW.eSkipT (j := 4) ?_ | refine EW.eSkipU (j := 4) ?_ | refine EW.eLoad1 ?_); (first | refine EW.eSkipT (j := 4) ?_ | refine EW.eSkipU (j := 4) ?_ | refine EW.eNot ?_); (first | refine EW.ePickT ?_ | refine EW.ePickF ?_); refine EW.eEnd ?_; (try refine EW.nm ?_))
  all_goals try (first | refine EW.eYes (x := .tmp 39) ?_ | refine EW.eNo (x := .tmp 39) ?_ | (refine EW.eCond (x := .tmp 39) ?_ ?_ <;> (intro hb hb'; (try dsimp only at hb'); (try (exfalso; first | omega | with_reducible exact absurd rfl hb')))))
  all_goals try (refine EW.nm ?_)
  all_goals (try ((try dsimp only at hD hlen hpy h8n); have hlt : n8 < n := (by omega); obtain ⟨s, p1, l1, hs, hp1, hS2, hcase⟩ := hD.step hy (by omega) hn hpy hlen hlt; have hw1 := wr_sub (a := n) (b := n8) (by omega) (by omega)))
  all_goals try (refine EW.eReg (id := 8) ?_; refine EW.eMove ?_; refine EW.eMove ?_; refine EW.eMove ?_; (first | refine EW.eLenS ?_ | refine EW.eLenG ?_ | refine EW.eLenN ?_); refine EW.eSub ?_ (hr' := hw1); (first | refine EW.eCallN [20, 10] Try.call47 (hS) ?_ | refine EW.eCallN [20, 10] Try.call47 (hS2) ?_ | refine EW.eCallN [20, 10] Try.call47 (hS3) ?_); refine EW.eAssign ?_; refine EW.eEnd ?_; (try refine EW.nm ?_))
  all_goals try (refine EW.eReg (id := 9) ?_; refine EW.eAssign ?_; refine EW.eEnd ?_; (try refine EW.nm ?_))
  all_goals first | (fail_if_success (refine EW.eUnroll 1 ?_)) | (refine EW.eLoopD [8, 10, 29, 42, 46, 47, 48, 49, 50, 51, 52, 53, 54] 31 (fun j : {i : Nat // i ≤ s} => [(.t 10, .v (.c (.v (.int .i64 j.1)))), (.t 8, .v (.c (.g 31 0 (n8 + j.1) (n8 + j.1) 4))), (.l 31, .l true), (.b 31, .b (.w true (pvs (wE ps j.1))))]) (fun j => s - j.1) (⟨0, by omega⟩) (by ((repeat (first | exact EW.subW.nil | refine EW.subW.cons rfl ?_ | refine EW.subW.conv rfl ?_ (by first | exact EW.kvW (pvs_pE _ _) | exact EW.kvW (congrArg pvs (wE_0 _).symm)) | refine EW.subW.conv rfl ?_)); (first | done | fail))) ?_; rintro hcl10 ⟨i, hi⟩; (try dsimp only))
  all_goals try (refine EW.nm ?_)
  all_goals try (refine EW.eReg (id := 10) ?_; refine EW.eMove ?_; refine EW.eMove ?_; refine EW.eLss ?_; refine EW.eEnd ?_; (try refine EW.nm ?_))
  all_goals try (first | refine EW.eYes (x := .tmp 48) ?_ | refine EW.eNo (x := .tmp 48) ?_ | (refine EW.eCond (x := .tmp 48) ?_ ?_ <;> (intro hb hb'; (try dsimp only at hb'); (try (exfalso; first | omega | with_reducible exact absurd rfl hb')))))
  all_goals try (refine EW.nm ?_)
  all_goals (try ((try dsimp only at hi); have hwl : (wE ps i).length = n8 + i := (by rw [wE_len, hlen])))
  all_goals try (refine EW.eReg (id := 12) ?_; refine EW.eMove ?_; refine EW.eBuild (place := fun i => [(0, 1), (1, 1), (2, 1), (3, 1)][i]?) ?_; refine EW.eBuildSlice (k := 4) ?_; (first | refine EW.eAppGW (z := 4) ?_ | refine EW.eAppG (z := 4) ?_ | refine EW.eAppZW (z := 4) ?_ | refine EW.eAppZ (z := 4) ?_ | refine EW.eAppSW (z := 4) ?_ | refine EW.eAppS (z := 4) ?_ | refine EW.eAppNW (z := 4) ?_ | refine EW.eAppN (z := 4) ?_); refine EW.eAssign ?_; refine EW.eEnd ?_; (try refine EW.nm ?_))
  all_goals try (refine EW.eReg (id := 11) ?_; refine EW.eMove ?_; refine EW.eAdd ?_; refine EW.eAssign ?_; refine EW.eEnd ?_; (try refine EW.nm ?_))
  all_goals first | (fail_if_success (with_reducible refine EW.isLater ?_)) | (refine EW.eLaterN (⟨i + 1, by omega⟩) [(31, 60)] (by dsimp only; omega) (by ((repeat (first | exact EW.subR.nil | refine EW.subR.l rfl ?_ | refine EW.subR.b rfl rfl ?_ | refine EW.subR.t rfl rfl ?_ | refine EW.subR.b rfl (by first | exact EW.kvW (pvs_pE _ _) | exact EW.kvW (congrArg pvs (wE_0 _).symm)) ?_ | refine EW.subR.t rfl (by first | exact EW.kvW (pvs_pE _ _) | exact EW.kvW (congrArg pvs (wE_0 _).symm)) ?_ | refine EW.subR.b rfl (by (first | exact EW.kvI (by first | omega | (dsimp only; omega)) | exact EW.kvG (by first | omega | (simp only [EW.nums_len, List.length_cons, List.length_nil, List.length_append, List.length_map, List.length_set, List.length_replicate, List.length_take, List.length_drop, List.length_range, EV.putL_length, Nat.reduceAdd, Nat.reduceMul, Nat.reduceSub]; omega)) (by first | omega | (simp only [EW.nums_len, List.length_cons, List.length_nil, List.length_append, List.length_map, List.length_set, List.length_replicate, List.length_take, List.length_drop, List.length_range, EV.putL_length, Nat.reduceAdd, Nat.reduceMul, Nat.reduceSub]; omega)) | exact EW.kvB (by simp [*]) | exact EW.kvW (by (first | rfl | simp)) | rfl)) ?_ | refine EW.subR.t rfl (by (first | exact EW.kvI (by first | omega | (dsimp only; omega)) | exact EW.kvG (by first | omega | (simp only [EW.nums_len, List.length_cons, List.length_nil, List.length_append, List.length_map, List.length_set, List.length_replicate, List.length_take, List.length_drop, List.length_range, EV.putL_length, Nat.reduceAdd, Nat.reduceMul, Nat.reduceSub]; omega)) (by first | omega | (simp only [EW.nums_len, List.length_cons, List.length_nil, List.length_append, List.length_map, List.length_set, List.length_replicate, List.length_take, List.length_drop, List.length_range, EV.putL_length, Nat.reduceAdd, Nat.reduceMul, Nat.reduceSub]; omega)) | exact EW.kvB (by simp [*]) | exact EW.kvW (by (first | rfl | simp)) | rfl)) ?_)); (first | done | fail))) (by (((repeat (first | with_reducible exact EW.Frm.refl | refine EW.Frm.upd ?_ rfl | refine EW.Frm.drp ?_ (by decide) rfl)); (first | done | fail)))) (by first | rfl | decide) (by (((repeat (first | exact True.intro | refine ⟨by (exact GV.no rfl rfl), ?_⟩)); (first | done | fail)))) (fun _ => rfl) hcl10 rfl (by ((first | (intro j n hn; cases hn; (first | done | fail)) | (intro n hn; cases hn; (first | done | fail)) | (intro j n hn; (repeat (first | (rcases List.mem_cons.1 hn with rfl | hn; (focus exact ⟨rfl, rfl⟩)) | (cases hn; (first | done | fail))))) | (intro n hn; (repeat (first | (rcases List.mem_cons.1 hn with rfl | hn; (focus exact ⟨rfl, rfl⟩)) | (cases hn; (first | done | fail)))))))))
  all_goals try (refine EW.nm ?_)
  all_goals (try ((try dsimp only at hi); have hiq : i = s := (by omega); subst hiq; rcases hcase with ⟨c1, c2, c3, c4, c5⟩ | ⟨c1, c2, c3, c4, c5⟩ | ⟨c1, c2, m, p2, l2, d1, d2, hS3, r, q, f, f', d3, hM, d4, d5, d6, d7, hD2⟩; (subst c1 c3 c4 c5; have hN9 := (wE_len ps i).trans (congrArg (· + i) hlen)); rotate_left; (subst c1 c3 c4 c5; have hN9 := (wE_len ps i).trans (congrArg (· + i) hlen)); rotate_left; (subst c1; have hw2 : Wr .i64 ((n : Int) - (((n8 + i : Nat)) : Int)) ((n - (n8 + i) : Nat) : Int) := wr_sub (a := n) (b := n8 + i) (by omega) (by omega)); rotate_left))
  all_goals try (refine EW.eReg (id := 13) ?_; refine EW.eMove ?_; (first | refine EW.eLenS ?_ | refine EW.eLenG ?_ | refine EW.eLenN ?_); refine EW.eMove ?_; refine EW.eEql ?_; refine EW.eMove ?_)
  all_goals try (refine EW.eGuard (j := 4) (o := ⟨some 60, _, _, _, _, _⟩) ?_ ?_ <;> (intro hb hb'; (try dsimp only at hb'); (try (exfalso; first | omega | with_reducible exact absurd rfl hb'))))
  all_goals try ((first | refine EW.eSkipF (j := 4) ?_ | refine EW.eSkipU (j := 4) ?_ | refine EW.eMove ?_); (first | refine EW.eSkipF (j := 4) ?_ | refine EW.eSkipU (j := 4) ?_ | refine EW.eNil ?_ | refine EW.eNilF ?_ | refine EW.eNilY ?_ | refine EW.eNilP ?_); (first | refine EW.eSkipF (j := 4) ?_ | refine EW.eSkipU (j := 4) ?_ | refine EW.eFieldAddr (k := 1) ?_); (first | refine EW.eSkipF (j := 4) ?_ | refine EW.eSkipU (j := 4) ?_ | refine EW.eLoad1 ?_); (first | refine EW.ePickT ?_ | refine EW.ePickF ?_); refine EW.eEnd ?_; (try refine EW.nm ?_))
  all_goals try (first | refine EW.eYes (x := .tmp 64) ?_ | refine EW.eNo (x := .tmp 64) ?_ | (refine EW.eCond (x := .tmp 64) ?_ ?_ <;> (intro hb hb'; (try dsimp only at hb'); (try (exfalso; first | omega | with_reducible exact absurd rfl hb')))))
  all_goals try (refine EW.nm ?_)
  all_goals try (refine EW.eReg (id := 14) ?_; refine EW.eMove ?_; refine EW.eMove ?_; refine EW.eMove ?_; (first | refine EW.eLenS ?_ | refine EW.eLenG ?_ | refine EW.eLenN ?_); refine EW.eSub ?_ (hr' := hw2); (first | refine EW.eCallN [20, 10] Try.call47 (hS) ?_ | refine EW.eCallN [20, 10] Try.call47 (hS2) ?_ | refine EW.eCallN [20, 10] Try.call47 (hS3) ?_); refine EW.eAssign ?_; refine EW.eEnd ?_; (try refine EW.nm ?_))
  all_goals try (refine EW.eReg (id := 15) ?_; refine EW.eAssign ?_; refine EW.eEnd ?_; (try refine EW.nm ?_))
  all_goals first | (fail_if_success (refine EW.eUnroll 1 ?_)) | (refine EW.eLoopD [1000020, 8, 12, 13, 29, 42, 51, 55, 67, 71, 72, 73, 74, 75, 76, 77, 78, 79, 80, 81, 82, 83, 84, 85, 86, 87, 88] 31 (fun y : {y : Nat × List Px × Nat × Nat × Bool // DMn bs m y.1 y.2.1 y.2.2.2.1 y.2.2.2.2 r q f ∧ y.2.1.length = y.2.2.1 ∧ y.2.2.2.1 ≤ bs.length ∧ y.2.2.1 ≤ n8 + i + y.1 ∧ y.1 ≤ m} => [(.t 12, .v (.c (.v (.int .i64 y.1.1)))), (.t 8, .v (.c (.g 31 0 y.1.2.2.1 y.1.2.2.1 4))), (.l 31, .l true), (.b 31, .b (.w true (pvs y.1.2.1))), (.b 20, .b (.m true (dcsN 10 bs.length y.1.2.2.2.1 y.1.2.2.2.2)))]) (fun y => m - y.1.1) (⟨(0, wE ps i, n8 + i, p2, l2), hM, by dsimp only; rw [wE_len, hlen], d2, by dsimp only; omega, Nat.zero_le _⟩) (by ((repeat (first | exact EW.subW.nil | refine EW.subW.cons rfl ?_ | refine EW.subW.conv rfl ?_ (by exact EW.kvW (pvs_snoc _ _)) | refine EW.subW.conv rfl ?_)); (first | done | fail))) ?_; rintro hcl16 ⟨⟨j, qs, q8, py2, l3⟩, hM2, hql, hpq, hqb⟩; (try dsimp only))
  all_goals try (refine EW.nm ?_)
  all_goals (try ((try dsimp only at hM2 hql hpq hqb); cases l3))
  all_goals try (refine EW.eReg (id := 16) ?_; refine EW.eMove ?_; refine EW.eMove ?_; refine EW.eLss ?_; refine EW.eMove ?_)
  all_goals try (refine EW.eGuard (j := 3) (o := ⟨some 75, _, _, _, _, _⟩) ?_ ?_ <;> (intro hb hb'; (try dsimp only at hb'); (try (exfalso; first | omega | with_reducible exact absurd rfl hb'))))
  all_goals try ((first | refine EW.eSkipT (j := 3) ?_ | refine EW.eSkipU (j := 3) ?_ | refine EW.eMove ?_); (first | refine EW.eSkipT (j := 3) ?_ | refine EW.eSkipU (j := 3) ?_ | refine EW.eNil ?_ | refine EW.eNilF ?_ | refine EW.eNilY ?_ | refine EW.eNilP ?_); (first | refine EW.eSkipT (j := 3) ?_ | refine EW.eSkipU (j := 3) ?_ | refine EW.eFieldAddr (k := 1) ?_); (first | refine EW.eSkipT (j := 3) ?_ | refine EW.eSkipU (j := 3) ?_ | refine EW.eLoad1 ?_); (first | refine EW.eSkipT (j := 3) ?_ | refine EW.eSkipU (j := 3) ?_ | refine EW.eNot ?_); (first | refine EW.ePickT ?_ | refine EW.ePickF ?_); refine EW.eEnd ?_; (try refine EW.nm ?_))
  all_goals try (first | refine EW.eYes (x := .tmp 80) ?_ | refine EW.eNo (x := .tmp 80) ?_ | (refine EW.eCond (x := .tmp 80) ?_ ?_ <;> (intro hb hb'; (try dsimp only at hb'); (try (exfalso; first | omega | with_reducible exact absurd rfl hb')))))
  all_goals try (refine EW.nm ?_)
  all_goals (try ((try dsimp only at hM2 hql hpq hqb); have hjm : j < m := (by omega); rcases hM2.inv with ⟨a1, _⟩ | ⟨_, a1, _⟩ | ⟨_, _, x, p4, l4, g1, g2, g3⟩; (cases a1); (exfalso; omega); have hTk := g2 true))
  all_goals try (refine EW.eReg (id := 18) ?_; refine EW.eMove ?_; refine EW.eCallN [20, 10] Try.call48 (hTk) ?_; refine EW.eAlloc ?_; (first | refine EW.eStoreW (k := 4) ?_ | refine EW.eStore (k := 4) ?_); refine EW.eEnd ?_; (try refine EW.nm ?_))
  all_goals try (refine EW.eReg (id := 19) ?_; refine EW.eMove ?_; refine EW.eLoadA (k := 4) ?_; refine EW.eBuildSlice (k := 4) ?_; (first | refine EW.eAppGW (z := 4) ?_ | refine EW.eAppG (z := 4) ?_ | refine EW.eAppZW (z := 4) ?_ | refine EW.eAppZ (z := 4) ?_ | refine EW.eAppSW (z := 4) ?_ | refine EW.eAppS (z := 4) ?_ | refine EW.eAppNW (z := 4) ?_ | refine EW.eAppN (z := 4) ?_); refine EW.eAssign ?_; refine EW.eEnd ?_; (try refine EW.nm ?_))
  all_goals try (refine EW.eReg (id := 17) ?_; refine EW.eMove ?_; refine EW.eAdd ?_; refine EW.eAssign ?_; refine EW.eEnd ?_; (try refine EW.nm ?_))
  all_goals first | (fail_if_success (with_reducible refine EW.isLater ?_)) | (refine EW.eLaterN (⟨(j + 1, qs ++ [x], q8 + 1, p4, l4), g3, by dsimp only; rw [List.length_append, hql]; rfl, g1, by dsimp only; omega, by dsimp only; omega⟩) [(31, 90)] (by dsimp only; omega) (by ((repeat (first | exact EW.subR.nil | refine EW.subR.l rfl ?_ | refine EW.subR.b rfl rfl ?_ | refine EW.subR.t rfl rfl ?_ | refine EW.subR.b rfl (by exact EW.kvW (pvs_snoc _ _)) ?_ | refine EW.subR.t rfl (by exact EW.kvW (pvs_snoc _ _)) ?_ | refine EW.subR.b rfl (by (first | exact EW.kvI (by first | omega | (dsimp only; omega)) | exact EW.kvG (by first | omega | (simp only [EW.nums_len, List.length_cons, List.length_nil, List.length_append, List.length_map, List.length_set, List.length_replicate, List.length_take, List.length_drop, List.length_range, EV.putL_length, Nat.reduceAdd, Nat.reduceMul, Nat.reduceSub]; omega)) (by first | omega | (simp only [EW.nums_len, List.length_cons, List.length_nil, List.length_append, List.length_map, List.length_set, List.length_replicate, List.length_take, List.length_drop, List.length_range, EV.putL_length, Nat.reduceAdd, Nat.reduceMul, Nat.reduceSub]; omega)) | exact EW.kvB (by simp [*]) | exact EW.kvW (by (first | rfl | simp)) | rfl)) ?_ | refine EW.subR.t rfl (by (first | exact EW.kvI (by first | omega | (dsimp only; omega)) | exact EW.kvG (by first | omega | (simp only [EW.nums_len, List.length_cons, List.length_nil, List.length_append, List.length_map, List.length_set, List.length_replicate, List.length_take, List.length_drop, List.length_range, EV.putL_length, Nat.reduceAdd, Nat.reduceMul, Nat.reduceSub]; omega)) (by first | omega | (simp only [EW.nums_len, List.length_cons, List.length_nil, List.length_append, List.length_map, List.length_set, List.length_replicate, List.length_take, List.length_drop, List.length_range, EV.putL_length, Nat.reduceAdd, Nat.reduceMul, Nat.reduceSub]; omega)) | exact EW.kvB (by simp [*]) | exact EW.kvW (by (first | rfl | simp)) | rfl)) ?_)); (first | done | fail))) (by (((repeat (first | with_reducible exact EW.Frm.refl | refine EW.Frm.upd ?_ rfl | refine EW.Frm.drp ?_ (by decide) rfl)); (first | done | fail)))) (by first | rfl | decide) (by (((repeat (first | exact True.intro | refine ⟨by (exact GV.no rfl rfl), ?_⟩)); (first | done | fail)))) (fun _ => rfl) hcl16 rfl (by ((first | (intro j n hn; cases hn; (first | done | fail)) | (intro n hn; cases hn; (first | done | fail)) | (intro j n hn; (repeat (first | (rcases List.mem_cons.1 hn with rfl | hn; (focus exact ⟨rfl, rfl⟩)) | (cases hn; (first | done | fail))))) | (intro n hn; (repeat (first | (rcases List.mem_cons.1 hn with rfl | hn; (focus exact ⟨rfl, rfl⟩)) | (cases hn; (first | done | fail)))))))))
  all_goals try (refine EW.nm ?_)
  all_goals (try ((try dsimp only at hM2 hql hpq hqb); rcases hM2.inv with ⟨b0, a1, a2, a3⟩ | ⟨b0, a0, a1, a2, a3⟩ | ⟨a1, a2, _⟩; rotate_left 2; (first | exact absurd a1 (by decide) | (exfalso; omega)); (first | exact absurd b0 (by decide) | (subst a1 a2 a3; have hf9 : true = f' := (by rw [← d5]; rfl); subst hf9)); rotate_left; (first | exact absurd b0 (by decide) | (subst a1 a2 a3; rcases Nat.eq_zero_or_pos (i + m) with hz | hz; (have hf9 : true = f' := (by rw [← d5, decide_eq_true hz]; rfl); subst hf9); rotate_left; (have hf9 : false = f' := (by rw [← d5, decide_eq_false (by omega)]; rfl); have d8 := d6 hf9.symm; subst hf9); rotate_left))))
  all_goals try (refine EW.eReg (id := 20) ?_; refine EW.eMove ?_; refine EW.eMove ?_; (first | refine EW.eNil ?_ | refine EW.eNilF ?_ | refine EW.eNilY ?_ | refine EW.eNilP ?_); refine EW.eFieldAddr (k := 1) ?_; refine EW.eLoad1 ?_; refine EW.eMove ?_)
  all_goals try (refine EW.eGuard (j := 5) (o := ⟨some 95, _, _, _, _, _⟩) ?_ ?_ <;> (intro hb hb'; (try dsimp only at hb'); (try (exfalso; first | omega | with_reducible exact absurd rfl hb'))))
  all_goals try ((first | refine EW.eSkipF (j := 5) ?_ | refine EW.eSkipU (j := 5) ?_ | refine EW.eMove ?_); (first | refine EW.eSkipF (j := 5) ?_ | refine EW.eSkipU (j := 5) ?_ | refine EW.eMove ?_); (first | refine EW.eSkipF (j := 5) ?_ | refine EW.eSkipU (j := 5) ?_ | refine EW.eAdd ?_); (first | refine EW.eSkipF (j := 5) ?_ | refine EW.eSkipU (j := 5) ?_ | refine EW.eEql ?_); (first | refine EW.ePickT ?_ | refine EW.ePickF ?_); (first | refine EW.eNil ?_ | refine EW.eNilF ?_ | refine EW.eNilY ?_ | refine EW.eNilP ?_); refine EW.eFieldAddr (k := 1) ?_; (first | refine EW.eStoreW (k := 1) ?_ | refine EW.eStore (k := 1) ?_); refine EW.eEnd ?_; (try refine EW.nm ?_))
  all_goals first | (fail_if_success (with_reducible refine EW.isLater ?_)) | (refine EW.eLaterN (⟨(r, q, q8, _), hD2, hql, hpq, by dsimp only; omega⟩) [(31, 31)] (by simp only [meas, cond_true, cond_false]; omega) (by ((repeat (first | exact EW.subR.nil | refine EW.subR.l rfl ?_ | refine EW.subR.b rfl rfl ?_ | refine EW.subR.t rfl rfl ?_ | refine EW.subR.b rfl (by rfl) ?_ | refine EW.subR.t rfl (by rfl) ?_ | refine EW.subR.b rfl (by (first | exact EW.kvI (by first | omega | (dsimp only; omega)) | exact EW.kvG (by first | omega | (simp only [EW.nums_len, List.length_cons, List.length_nil, List.length_append, List.length_map, List.length_set, List.length_replicate, List.length_take, List.length_drop, List.length_range, EV.putL_length, Nat.reduceAdd, Nat.reduceMul, Nat.reduceSub]; omega)) (by first | omega | (simp only [EW.nums_len, List.length_cons, List.length_nil, List.length_append, List.length_map, List.length_set, List.length_replicate, List.length_take, List.length_drop, List.length_range, EV.putL_length, Nat.reduceAdd, Nat.reduceMul, Nat.reduceSub]; omega)) | exact EW.kvB (by simp [*]) | exact EW.kvW (by (first | rfl | simp)) | rfl)) ?_ | refine EW.subR.t rfl (by (first | exact EW.kvI (by first | omega | (dsimp only; omega)) | exact EW.kvG (by first | omega | (simp only [EW.nums_len, List.length_cons, List.length_nil, List.length_append, List.length_map, List.length_set, List.length_replicate, List.length_take, List.length_drop, List.length_range, EV.putL_length, Nat.reduceAdd, Nat.reduceMul, Nat.reduceSub]; omega)) (by first | omega | (simp only [EW.nums_len, List.length_cons, List.length_nil, List.length_append, List.length_map, List.length_set, List.length_replicate, List.length_take, List.length_drop, List.length_range, EV.putL_length, Nat.reduceAdd, Nat.reduceMul, Nat.reduceSub]; omega)) | exact EW.kvB (by simp [*]) | exact EW.kvW (by (first | rfl | simp)) | rfl)) ?_)); (first | done | fail))) (by (((repeat (first | with_reducible exact EW.Frm.refl | refine EW.Frm.upd ?_ rfl | refine EW.Frm.drp ?_ (by decide) rfl)); (first | done | fail)))) (by first | rfl | decide) (by (((repeat (first | exact True.intro | refine ⟨by (exact GV.no rfl rfl), ?_⟩)); (first | done | fail)))) (fun _ => rfl) hcl7 rfl (by ((first | (intro j n hn; cases hn; (first | done | fail)) | (intro n hn; cases hn; (first | done | fail)) | (intro j n hn; (repeat (first | (rcases List.mem_cons.1 hn with rfl | hn; (focus exact ⟨rfl, rfl⟩)) | (cases hn; (first | done | fail))))) | (intro n hn; (repeat (first | (rcases List.mem_cons.1 hn with rfl | hn; (focus exact ⟨rfl, rfl⟩)) | (cases hn; (first | done | fail)))))))))
  all_goals try (refine EW.nm ?_)
  all_goals (try ((try dsimp only at hD hlen hpy h8n); first | (have hN9' := hN9) | (have hd := hD.lst; obtain ⟨i1, i2, i3⟩ := hd; have hN9 := hlen; subst i1 i2 i3) | (have hq : n ≤ ps.length := (by omega); have hd := hD.fin hq; obtain ⟨i1, i2, i3⟩ := hd; have hN9 := hlen; subst i1 i2 i3)))
  all_goals try (refine EW.eReg (id := 21) ?_; refine EW.eMove ?_; refine EW.eCallN [20, 10] Try.call49 (hE) ?_; refine EW.eAssign ?_; refine EW.eEnd ?_; (try refine EW.nm ?_))
  all_goals (rcases h9 with ⟨rfl, rfl, rfl⟩ | ⟨rfl, hne, rfl, rfl⟩ | ⟨rfl, hne, rfl, rfl⟩)
  all_goals try (refine EW.eReg (id := 22) ?_; refine EW.eMove ?_; refine EW.eNeq ?_; refine EW.eEnd ?_; (try refine EW.nm ?_))
  all_goals try (first | refine EW.eYes (x := .tmp 105) ?_ | refine EW.eNo (x := .tmp 105) ?_ | (refine EW.eCond (x := .tmp 105) ?_ ?_ <;> (intro hb hb'; (try dsimp only at hb'); (try (exfalso; first | omega | with_reducible exact absurd rfl hb')))))
  all_goals try (refine EW.nm ?_)
  all_goals try (refine EW.eReg (id := 23) ?_; refine EW.eAssign ?_; refine EW.eAssign ?_; refine EW.eEnd ?_; (try refine EW.nm ?_))
  all_goals (try (refine EW.eNilGK 2 32 4 ?_))
  all_goals try (with_reducible refine EW.parkK ?_)
  all_goals (try (have hEn := hEnc _ hN9))
  all_goals try (refine EW.eReg (id := 24) ?_; refine EW.eMove ?_; refine EW.eCallN [31] Try.call14 (hEn) ?_; refine EW.eMove ?_; (first | refine EW.eExtC ?_ | refine EW.eExtA ?_); (first | refine EW.eExtC ?_ | refine EW.eExtA ?_); refine EW.eAssign ?_; refine EW.eAssign ?_; refine EW.eEnd ?_; (try refine EW.nm ?_))
  all_goals try (refine EW.eReg (id := 25) ?_; refine EW.eMove ?_; refine EW.eTextG (bs := U r2) (hbs := text_all hr2) ?_; refine EW.eMove ?_; refine EW.eTextG (bs := U B) (hbs := text_all hBy) ?_; refine EW.eStrNe ?_ (hr' := hne); refine EW.eEnd ?_; (try refine EW.nm ?_))
  all_goals try (first | refine EW.eYes (x := .tmp 115) ?_ | refine EW.eNo (x := .tmp 115) ?_ | (refine EW.eCond (x := .tmp 115) ?_ ?_ <;> (intro hb hb'; (try dsimp only at hb'); (try (exfalso; first | omega | with_reducible exact absurd rfl hb')))))
  all_goals try (refine EW.nm ?_)
  all_goals try (refine EW.eReg (id := 26) ?_; refine EW.eAssign ?_; refine EW.eAssign ?_; refine EW.eEnd ?_; (try refine EW.nm ?_))
  all_goals (try (refine EW.eNilGK 2 32 4 ?_))
  all_goals try (with_reducible refine EW.parkK ?_)
  all_goals try (refine EW.eReg (id := 27) ?_; refine EW.eMove ?_; refine EW.eAssign ?_; refine EW.eAssign ?_; refine EW.eEnd ?_; (try refine EW.nm ?_))
  all_goals try (with_reducible refine EW.parkK ?_)
  all_goals try (refine EW.Park.mk ?_)
  all_goals (try rw [hN9] at hR)
  all_goals first | (refine EW.eLeaveN [31] hR EW.orP (by rfl) (by rfl) ?_ ?_ rfl rfl EW.nlP rfl rfl; rotate_left 1; (· ((repeat (first | exact EW.atE.nil | refine EW.atE.lt rfl ?_ | refine EW.atE.lf ?_ | refine EW.atE.b rfl EW.SameB.refl ?_ | (refine EW.atE.b rfl ?_ ?_; rotate_left 1)))))) | (refine EW.eLeaveN [32] hR EW.orP (by rfl) (by rfl) ?_ ?_ rfl rfl EW.nlP rfl rfl; rotate_left 1; (· ((repeat (first | exact EW.atE.nil | refine EW.atE.lt rfl ?_ | refine EW.atE.lf ?_ | refine EW.atE.b rfl EW.SameB.refl ?_ | (refine EW.atE.b rfl ?_ ?_; rotate_left 1))))))
  all_goals rfl
theorem ddec_y {l : List Px} (hg : Gd l) : DecR 21 false (sealL (rleB l)) l 0 := by
  have hle := rleB_le hg
  have h4 := hg.sp.1
  have hby := rleB_by l
  obtain ⟨k, h1, h2, h3⟩ := enc_dec hg
  have hD := run_drun hby (by omega) h3 rfl
  have hsl := seal_len (rleB l)
  have hS := dsmallY (o := true) hby (by omega) (p := 0) (m := 4096) (by omega) (by omega) (by rw [List.drop_zero]; exact h1) (by omega)
  rw [Nat.zero_add] at hS
  exact ddec_any _ (rleB l) l.length k l _ false (sealL (rleB l)) 0 l 0 0 false hby (by omega) (seal_by hby) (seal_by hby) (by omega) (by omega) (dopen_y _ hby (by omega)) hS (by omega) h2 hD (fun N hN => by subst hN; exact denc_y true l hg) (dend_f true _ _ 0 0 (by omega) (.inl ⟨rfl, rfl⟩)) (.inr (.inl ⟨rfl, ⟨by simp⟩, rfl, rfl⟩))
theorem dend_of (bs : List Int) (p : Nat) (f : Bool) (hp : p ≤ bs.length) (h : f = true ∨ p < bs.length) : CT Try.prog 49 [.c (.p 0 0)] (upd EW.emp (WD true bs p f)) 2 2 (.c (.v (.int .i64 50))) (upd (upd EW.emp (WD true bs p f)) []) := by
  cases f with
  | true => exact dend_t true bs p
  | false =>
    have h' : p < bs.length := by
      rcases h with h | h
      · cases h
      · exact h
    exact dend_f true bs p (bs.length - p) 50 (by omega) (.inr ⟨by omega, rfl⟩)
theorem seal_inj {a b : List Int} (h : sealL a = sealL b) : a = b := by
  rw [← body_seal a, ← body_seal b, h]
theorem denc_ex {l : List Px} (hl : l.length ≤ 10000) (hw : ∀ x ∈ l, x.wf) : ∃ r e, By r ∧ r.length ≤ 300000 ∧ EncR 14 true l r e ∧ ((Gd l ∧ r = sealL (rleB l)) ∨ r = []) := by
  by_cases h : spOk l
  · have hg : Gd l := ⟨h, wf_of hw⟩
    have := rleB_le hg
    have := hg.sp.1
    exact ⟨_, _, seal_by (rleB_by l), by rw [seal_len]; omega, denc_y true l hg, .inl ⟨hg, rfl⟩⟩
  · exact ⟨_, _, (fun x hx => by simp at hx), by simp, denc_bad true l hl h, .inr rfl⟩
theorem ddec_n {q : List Int} (hy : By q) (hl : q.length ≤ 800000) (h : ∀ l, Gd l → ¬ rleB l = q) : DecR 21 false (sealL q) [] 160 := by
  have hO := dopen_y q hy hl
  have hsl := seal_len q
  by_cases hn : ∃ n k, num q = some (n, k) ∧ n ≤ 4096
  · obtain ⟨n, k, h1, h2⟩ := hn
    have hk := num_in (p := 0) hy (by omega) (by rw [List.drop_zero]; exact h1)
    have hS := dsmallY (o := true) hy (by omega) (p := 0) (m := 4096) (by omega) (by omega) (by rw [List.drop_zero]; exact h1) h2
    rw [Nat.zero_add] at hS hk
    obtain ⟨rl, rp, rf, hR, e1, e2, e3⟩ := drun_ex q n hy (by omega) n [] k (by simp) (by simp) hk.2 (fun x hx => by simp at hx)
    obtain ⟨r, e, g1, g2, g4, g5⟩ := denc_ex (l := rl) (by omega) e3
    by_cases hend : rf = true ∨ rp < q.length
    · exact ddec_any _ q n k rl rp rf r e [] 160 50 false hy hl (seal_by hy) g1 (by omega) (by omega) hO hS h2 hk.2 hR (fun N hN => by subst hN; exact g4) (dend_of q rp rf e2 hend) (.inl ⟨rfl, rfl, rfl⟩)
    · obtain ⟨rfl, rfl⟩ : rf = false ∧ rp = q.length := by
        refine ⟨?_, ?_⟩
        · cases rf with
          | true => exact absurd (.inl rfl) hend
          | false => rfl
        · rcases Nat.lt_or_ge rp q.length with h9 | h9
          · exact absurd (.inr h9) hend
          · omega
      have hne : ¬ U r = U (sealL q) := fun hu => by
        have hu := u_inj g1 (seal_by hy) hu
        rcases g5 with ⟨hgd, rfl⟩ | rfl
        · exact h rl hgd (seal_inj hu)
        · have := congrArg List.length hu
          rw [hsl] at this; simp at this
      exact ddec_any _ q n k rl _ _ r e [] 160 0 false hy hl (seal_by hy) g1 (by omega) (by omega) hO hS h2 hk.2 hR (fun N hN => by subst hN; exact g4) (dend_f true _ _ 0 0 (by omega) (.inl ⟨rfl, rfl⟩)) (.inr (.inr ⟨rfl, ⟨by simp [hne]⟩, rfl, rfl⟩))
  · have hS := dsmallN (o := true) hy (by omega) (p := 0) (m := 4096) (by omega) (by omega) (fun v k hv => by
      rw [List.drop_zero] at hv
      exact Nat.lt_of_not_le fun hle => hn ⟨v, k, hv, hle⟩)
    obtain ⟨r, e, g1, g2, g4, g5⟩ := denc_ex (l := []) (by simp) (fun x hx => by simp at hx)
    exact ddec_any _ q 0 0 [] 0 true r e [] 160 50 true hy hl (seal_by hy) g1 (by omega) (by omega) hO hS (by omega) (by omega) .lost (fun N hN => by subst hN; exact g4) (dend_of q 0 true (by omega) (.inl rfl)) (.inl ⟨rfl, rfl, rfl⟩)
/-- Decode, the program's and the document's, of any bytes. -/
theorem dec_both {b : List Int} (hy : By b) (hl : b.length ≤ 800000) : ∃ r e, r.length ≤ 4096 ∧ (∀ x ∈ r, x.wf) ∧ DecR 20 false b r e ∧ DecR 21 false b r e ∧ ((Gd r ∧ b = sealL (rleB r) ∧ e = 0) ∨ (r = [] ∧ (e = 40 ∨ e = 160))) := by
  by_cases hs : b = sealL (body b)
  · have hyb := take_by hy (b.length - 4)
    have hlb : (body b).length ≤ 800000 := by rw [List.length_take]; omega
    by_cases hg : ∃ l, Gd l ∧ rleB l = body b
    · obtain ⟨l, hg, hq⟩ := hg
      rw [← hq] at hs
      rw [hs]
      exact ⟨l, 0, hg.sp.1, fun x hx => by obtain ⟨i, hi, rfl⟩ := mem_getD hx; exact hg.wf i hi, idec_y hg, ddec_y hg, .inl ⟨hg, rfl, rfl⟩⟩
    · have hn : ∀ l, Gd l → ¬ rleB l = body b := fun l h1 h2 => hg ⟨l, h1, h2⟩
      rw [hs]
      exact ⟨[], 160, by simp, fun x hx => by simp at hx, idec_n hyb hlb hn, ddec_n hyb hlb hn, .inr ⟨rfl, .inr rfl⟩⟩
  · exact ⟨[], 40, by simp, fun x hx => by simp at hx, idec_s b hy (by omega) hs, ddec_s b hy (by omega) hs, .inr ⟨rfl, .inl rfl⟩⟩
end Go.Proofs.Ytnmkpekfkfckoaa
