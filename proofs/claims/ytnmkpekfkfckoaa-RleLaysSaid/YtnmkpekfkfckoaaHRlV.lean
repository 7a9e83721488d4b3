/- rle.take. -/
import Derived.Test.YtnmkpekfkfckoaaHRlU
namespace Go.Proofs.Ytnmkpekfkfckoaa
set_option linter.unusedSimpArgs false
set_option linter.unusedVariables false
open Go.RowKit EV
open SX (Wr Tv Qu Rm Sh Is conjP eqs_iff eqs_false)
open EW (PlL PlT PlV PlVs LfV Mm Bt Opn GV YT lpOf nums)
set_option maxRecDepth 20000
/-- Empty pixels behind. -/
abbrev wE (l : List Px) (s : Nat) : List Px := l ++ List.replicate s pE
/-- What take comes to. -/
inductive Run (bs : List Int) (n : Nat) : List Px → Nat → List Px → Nat → Bool → Prop
  | done {l p} : n ≤ l.length → Run bs n l p l p false
  | small {l p} : l.length < n → (∀ v k, num (bs.drop p) = some (v, k) → n - l.length < v) → Run bs n l p l p true
  | zero {l p k} : l.length < n → num (bs.drop p) = some (0, k) → p + k ≤ bs.length → 0 < l.length → Run bs n l p l (p + k) true
  | last {l p s k} : l.length < n → num (bs.drop p) = some (s, k) → p + k ≤ bs.length → (s = 0 → l.length = 0) → l.length + s = n → Run bs n l p (wE l s) (p + k) false
  | none {l p s k q f} : l.length < n → num (bs.drop p) = some (s, k) → p + k ≤ bs.length → (s = 0 → l.length = 0) → l.length + s < n → ManyR bs (n - (l.length + s)) (p + k) [] q f → q ≤ bs.length → Run bs n l p (wE l s) q true
  | next {l p s k r q rl rp rf} : l.length < n → num (bs.drop p) = some (s, k) → p + k ≤ bs.length → (s = 0 → l.length = 0) → l.length + s < n → ManyR bs (n - (l.length + s)) (p + k) r q false → q ≤ bs.length → 0 < r.length → r.length ≤ n - (l.length + s) → Run bs n (wE l s ++ r) q rl rp rf → Run bs n l p rl rp rf
theorem Run.inv {bs : List Int} {n p rp : Nat} {l rl : List Px} {rf : Bool} (h : Run bs n l p rl rp rf) (hl : l.length < n) :
    ((∀ v k, num (bs.drop p) = some (v, k) → n - l.length < v) ∧ rl = l ∧ rp = p ∧ rf = true)
    ∨ (∃ k, num (bs.drop p) = some (0, k) ∧ p + k ≤ bs.length ∧ 0 < l.length ∧ rl = l ∧ rp = p + k ∧ rf = true)
    ∨ ∃ s k, num (bs.drop p) = some (s, k) ∧ p + k ≤ bs.length ∧ (s = 0 → l.length = 0) ∧ s ≤ n - l.length ∧ (
      (l.length + s = n ∧ rl = wE l s ∧ rp = p + k ∧ rf = false)
      ∨ (l.length + s < n ∧ (∃ q f, ManyR bs (n - (l.length + s)) (p + k) [] q f ∧ rl = wE l s ∧ rp = q ∧ rf = true))
      ∨ (l.length + s < n ∧ ∃ r q, ManyR bs (n - (l.length + s)) (p + k) r q false ∧ q ≤ bs.length ∧ 0 < r.length ∧ r.length ≤ n - (l.length + s) ∧ Run bs n (wE l s ++ r) q rl rp rf)) := by
  cases h with
  | done h => omega
  | small _ h => exact .inl ⟨h, rfl, rfl, rfl⟩
  | zero _ h h1 h2 => exact .inr (.inl ⟨_, h, h1, h2, rfl, rfl, rfl⟩)
  | last _ h h1 h2 h3 => exact .inr (.inr ⟨_, _, h, h1, h2, by omega, .inl ⟨h3, rfl, rfl, rfl⟩⟩)
  | none _ h h1 h2 h3 h4 h5 => exact .inr (.inr ⟨_, _, h, h1, h2, by omega, .inr (.inl ⟨h3, _, _, h4, rfl, rfl, rfl⟩)⟩)
  | next _ h h1 h2 h3 h4 h5 h6 h7 h8 => exact .inr (.inr ⟨_, _, h, h1, h2, by omega, .inr (.inr ⟨h3, _, _, h4, h5, h6, h7, h8⟩)⟩)
theorem wE_len (l : List Px) (s : Nat) : (wE l s).length = l.length + s := by simp
theorem Run.fin {bs : List Int} {n p rp : Nat} {l rl : List Px} {rf : Bool} (h : Run bs n l p rl rp rf) (hl : n ≤ l.length) : rl = l ∧ rp = p ∧ rf = false := by
  cases h <;> first | exact ⟨rfl, rfl, rfl⟩ | (exfalso; omega)
theorem repl_len (s : Nat) : (List.replicate s pE).length = s := List.length_replicate
theorem pvs_app (a b : List Px) : pvs a ++ pvs b = pvs (a ++ b) := by simp [pvs]
theorem pvs_all (b : List Px) (k : Nat) (h : b.length = k) : List.take (k * 4) (List.drop 0 (pvs b)) = pvs b := by
  rw [List.drop_zero, List.take_of_length_le (by rw [pvs_length]; omega)]
theorem pvs_join (a : List Px) (s : Nat) : pvs a ++ List.take (s * 4) (List.drop 0 (pvs (List.replicate s pE))) = pvs (wE a s) := by
  rw [pvs_all _ _ (repl_len s), pvs_app]
theorem pvs_join2 (a b : List Px) : pvs a ++ List.take (b.length * 4) (List.drop 0 (pvs b)) = pvs (a ++ b) := by
  rw [pvs_all _ _ rfl, pvs_app]
abbrev TakeC (bs : List Int) (p : Nat) (rl : List Px) (rp : Nat) (rf : Bool) : Prop := CT Try.prog 44 [.c (.p 0 0)] (upd EW.emp (WQr bs p false)) 2 3 (.c (.g 2 0 rl.length rl.length 4)) (upd (upd EW.emp (WQr bs p false)) [(.b 0, .b (.m true (rcs rp (bs.length - rp) rf))), (.l 2, .l true), (.b 2, .b (.w true (pvs rl)))])
theorem take_no (bs : List Int) (p : Nat) (hy : By bs) (hl : bs.length ≤ 1000000) (hp : p ≤ bs.length) (h : ∀ v k, num (bs.drop p) = some (v, k) → 4096 < v) : TakeC bs p [] p true := by
  have hS := smallN hy hl hp (m := 4096) (by omega) h
  refine EW.ctEnter EW.sup1 Try.func44 rfl Try.ntmps44 rfl EW.nlP ?_; intro w0 tch ini R hR
  all_goals try (refine EW.nm ?_)
  all_goals try (refine EW.eReg (id := 0) ?_; refine EW.eAssign ?_; refine EW.eEnd ?_; (try refine EW.nm ?_))
  all_goals try (refine EW.eReg (id := 1) ?_; refine EW.eAssign ?_; refine EW.eEnd ?_; (try refine EW.nm ?_))
  all_goals try (refine EW.eReg (id := 2) ?_; refine EW.eMove ?_; refine EW.eCallN [0, 1] Try.call70 (hS) ?_; refine EW.eAssign ?_; refine EW.eEnd ?_; (try refine EW.nm ?_))
  all_goals first | (fail_if_success (refine EW.eUnroll 1 ?_)) | (refine EW.eLoopD [3, 5, 6, 9, 10, 11, 12, 13, 14, 15, 16, 17, 18, 19, 20, 21, 22, 23, 24, 25, 26, 27, 28, 29, 30, 31, 32, 33, 34, 35, 36, 37, 38, 39, 40, 41, 42, 43, 44, 45, 46, 47, 48, 49, 50, 51, 52, 53, 54, 55] 9 (fun j : {x : Nat // x = 0} => [(.t 3, .v (.c (.v (.slice none 0 0))))]) (fun j => j.1) (⟨0, rfl⟩) (by ((repeat (first | exact EW.subW.nil | refine EW.subW.cons rfl ?_ | refine EW.subW.conv rfl ?_)); (first | done | fail))) ?_; rintro hcl3 ⟨k, hk⟩; (try dsimp only))
  all_goals try (refine EW.nm ?_)
  all_goals try (refine EW.eReg (id := 3) ?_; refine EW.eMove ?_; (first | refine EW.eLenS ?_ | refine EW.eLenG ?_ | refine EW.eLenN ?_); refine EW.eMove ?_; refine EW.eLss ?_; refine EW.eEnd ?_; (try refine EW.nm ?_))
  all_goals try (first | refine EW.eYes (x := .tmp 12) ?_ | refine EW.eNo (x := .tmp 12) ?_ | (refine EW.eCond (x := .tmp 12) ?_ ?_ <;> (intro hb hb'; (try dsimp only at hb'); (try (exfalso; first | omega | with_reducible exact absurd rfl hb')))))
  all_goals try (refine EW.nm ?_)
  all_goals try (refine EW.eReg (id := 4) ?_; refine EW.eMove ?_; refine EW.eMove ?_; refine EW.eMove ?_; (first | refine EW.eLenS ?_ | refine EW.eLenG ?_ | refine EW.eLenN ?_); refine EW.eSub ?_; refine EW.eCallN [0, 1] Try.call70 (hS) ?_; refine EW.eAssign ?_; refine EW.eEnd ?_; (try refine EW.nm ?_))
  all_goals try (refine EW.eReg (id := 5) ?_; refine EW.eMove ?_; refine EW.eEql ?_; refine EW.eMove ?_)
  all_goals try (refine EW.eGuard (j := 2) (o := ⟨some 22, _, _, _, _, _⟩) ?_ ?_ <;> (intro hb hb'; (try dsimp only at hb'); (try (exfalso; first | omega | with_reducible exact absurd rfl hb'))))
  all_goals try ((first | refine EW.eSkipT (j := 2) ?_ | refine EW.eSkipU (j := 2) ?_ | refine EW.eMove ?_); (first | refine EW.eSkipT (j := 2) ?_ | refine EW.eSkipU (j := 2) ?_ | refine EW.eLenS ?_ | refine EW.eLenG ?_ | refine EW.eLenN ?_); (first | refine EW.eSkipT (j := 2) ?_ | refine EW.eSkipU (j := 2) ?_ | refine EW.eGtr ?_); (first | refine EW.ePickT ?_ | refine EW.ePickF ?_); refine EW.eMove ?_)
  all_goals try (refine EW.eGuard (j := 7) (o := ⟨some 27, _, _, _, _, _⟩) ?_ ?_ <;> (intro hb hb'; (try dsimp only at hb'); (try (exfalso; first | omega | with_reducible exact absurd rfl hb'))))
  all_goals try ((first | refine EW.eSkipF (j := 7) ?_ | refine EW.eSkipU (j := 7) ?_ | refine EW.eMove ?_); (first | refine EW.eSkipF (j := 7) ?_ | refine EW.eSkipU (j := 7) ?_ | fail "no contract of mullion/rle.lost"); (first | refine EW.ePickT ?_ | refine EW.ePickF ?_); refine EW.eEnd ?_; (try refine EW.nm ?_))
  all_goals try (first | refine EW.eYes (x := .tmp 29) ?_ | refine EW.eNo (x := .tmp 29) ?_ | (refine EW.eCond (x := .tmp 29) ?_ ?_ <;> (intro hb hb'; (try dsimp only at hb'); (try (exfalso; first | omega | with_reducible exact absurd rfl hb')))))
  all_goals try (refine EW.nm ?_)
  all_goals try (refine EW.eReg (id := 6) ?_; refine EW.eMove ?_; fail "no contract of (*mullion/pack.Reader).Spoil"; refine EW.eEnd ?_; (try refine EW.nm ?_))
  all_goals try (refine EW.eReg (id := 7) ?_; refine EW.eMove ?_; fail "no contract of mullion/pixel.Empty"; refine EW.eBuildSlice (k := 4) ?_; refine EW.eMove ?_; fail "no contract of slices.Repeat[[]mullion/api.Pixel,mullion/api.Pixel]"; (first | refine EW.eAppGW (z := 4) ?_ | refine EW.eAppG (z := 4) ?_ | refine EW.eAppZW (z := 4) ?_ | refine EW.eAppZ (z := 4) ?_ | refine EW.eAppSW (z := 4) ?_ | refine EW.eAppS (z := 4) ?_ | refine EW.eAppNW (z := 4) ?_ | refine EW.eAppN (z := 4) ?_); refine EW.eAssign ?_; refine EW.eEnd ?_; (try refine EW.nm ?_))
  all_goals try (refine EW.eReg (id := 8) ?_; refine EW.eMove ?_; (first | refine EW.eLenS ?_ | refine EW.eLenG ?_ | refine EW.eLenN ?_); refine EW.eMove ?_; refine EW.eEql ?_; refine EW.eEnd ?_; (try refine EW.nm ?_))
  all_goals try (first | refine EW.eYes (x := .tmp 41) ?_ | refine EW.eNo (x := .tmp 41) ?_ | (refine EW.eCond (x := .tmp 41) ?_ ?_ <;> (intro hb hb'; (try dsimp only at hb'); (try (exfalso; first | omega | with_reducible exact absurd rfl hb')))))
  all_goals try (refine EW.nm ?_)
  all_goals try (refine EW.eReg (id := 9) ?_; refine EW.eMove ?_; refine EW.eMove ?_; refine EW.eMove ?_; (first | refine EW.eLenS ?_ | refine EW.eLenG ?_ | refine EW.eLenN ?_); refine EW.eSub ?_; fail "no contract of mullion/pack.Many[mullion/api.Pixel]"; refine EW.eAssign ?_; refine EW.eEnd ?_; (try refine EW.nm ?_))
  all_goals try (refine EW.eReg (id := 10) ?_; refine EW.eMove ?_; (first | refine EW.eLenS ?_ | refine EW.eLenG ?_ | refine EW.eLenN ?_); refine EW.eEql ?_; refine EW.eEnd ?_; (try refine EW.nm ?_))
  all_goals try (first | refine EW.eYes (x := .tmp 50) ?_ | refine EW.eNo (x := .tmp 50) ?_ | (refine EW.eCond (x := .tmp 50) ?_ ?_ <;> (intro hb hb'; (try dsimp only at hb'); (try (exfalso; first | omega | with_reducible exact absurd rfl hb')))))
  all_goals try (refine EW.nm ?_)
  all_goals try (refine EW.eReg (id := 11) ?_; refine EW.eMove ?_; fail "no contract of (*mullion/pack.Reader).Spoil"; refine EW.eEnd ?_; (try refine EW.nm ?_))
  all_goals try (refine EW.eReg (id := 12) ?_; refine EW.eMove ?_; refine EW.eMove ?_; (first | refine EW.eAppGW (z := 4) ?_ | refine EW.eAppG (z := 4) ?_ | refine EW.eAppZW (z := 4) ?_ | refine EW.eAppZ (z := 4) ?_ | refine EW.eAppSW (z := 4) ?_ | refine EW.eAppS (z := 4) ?_ | refine EW.eAppNW (z := 4) ?_ | refine EW.eAppN (z := 4) ?_); refine EW.eAssign ?_; refine EW.eEnd ?_; (try refine EW.nm ?_))
  all_goals first | (fail_if_success (with_reducible refine EW.isLater ?_)) | (refine EW.eLaterD (⟨k, hk⟩) (by dsimp only; omega) (by ((repeat (first | exact EW.subW.nil | refine EW.subW.cons rfl ?_ | refine EW.subW.conv rfl ?_)); (first | done | fail))) hcl3)
  all_goals try (refine EW.nm ?_)
  all_goals try (refine EW.eReg (id := 13) ?_; refine EW.eMove ?_; refine EW.eAssign ?_; refine EW.eEnd ?_; (try refine EW.nm ?_))
  all_goals (try (refine EW.eNilGK 2 8 4 ?_))
  all_goals try (with_reducible refine EW.parkK ?_)
  all_goals try (refine EW.Park.mk ?_)
  all_goals (refine EW.eLeaveN [8] hR EW.orP (by rfl) (by rfl) ?_ ?_ rfl rfl EW.nlP rfl rfl; rotate_left 1; (· ((repeat (first | exact EW.atE.nil | refine EW.atE.lt rfl ?_ | refine EW.atE.lf ?_ | refine EW.atE.b rfl EW.SameB.refl ?_ | (refine EW.atE.b rfl ?_ ?_; rotate_left 1))))))
  all_goals rfl
set_option maxHeartbeats 4000000 in
theorem take_ok (bs : List Int) (p n k : Nat) (rl : List Px) (rp : Nat) (rf : Bool) (hy : By bs) (hl : bs.length ≤ 1000000) (hp : p ≤ bs.length) (hn : n ≤ 4096) (h : num (bs.drop p) = some (n, k)) (hk : p + k ≤ bs.length) (hR9 : Run bs n [] (p + k) rl rp rf) : TakeC bs p rl rp rf := by
  have hS := smallY hy hl hp (m := 4096) (by omega) h hn
  have hEm := fun u => pempty u
  refine EW.ctEnter EW.sup1 Try.func44 rfl Try.ntmps44 rfl EW.nlP ?_; intro w0 tch ini R hR
  all_goals try (refine EW.nm ?_)
  all_goals try (refine EW.eReg (id := 0) ?_; refine EW.eAssign ?_; refine EW.eEnd ?_; (try refine EW.nm ?_))
  all_goals try (refine EW.eReg (id := 1) ?_; refine EW.eAssign ?_; refine EW.eEnd ?_; (try refine EW.nm ?_))
  all_goals try (refine EW.eReg (id := 2) ?_; refine EW.eMove ?_; (first | refine EW.eCallN [0, 1] Try.call70 (hS) ?_ | refine EW.eCallN [0, 1] Try.call70 (hS2) ?_); refine EW.eAssign ?_; refine EW.eEnd ?_; (try refine EW.nm ?_))
  all_goals first | (fail_if_success (refine EW.eUnroll 1 ?_)) | (refine EW.eNilG 3 5 4 ?_)
  all_goals first | (fail_if_success (refine EW.eUnroll 1 ?_)) | (refine EW.eLoopD [1000000, 3, 5, 6, 9, 10, 11, 12, 13, 14, 15, 16, 17, 18, 19, 20, 21, 22, 23, 24, 25, 26, 27, 28, 29, 30, 31, 32, 33, 34, 35, 36, 37, 38, 39, 40, 41, 42, 43, 44, 45, 46, 47, 48, 49, 50, 51, 52, 53, 54, 55] 5 (fun j : {x : List Px × Nat × Nat // Run bs n x.1 x.2.1 rl rp rf ∧ x.1.length = x.2.2 ∧ x.2.1 ≤ bs.length} => [(.t 3, .v (.c (.g 5 0 j.1.2.2 j.1.2.2 4))), (.l 5, .l true), (.b 5, .b (.w true (pvs j.1.1))), (.b 0, .b (.m true (rcs j.1.2.1 (bs.length - j.1.2.1) false)))]) (fun j => n - j.1.2.2) (⟨([], p + k, 0), hR9, rfl, hk⟩) (by ((repeat (first | exact EW.subW.nil | refine EW.subW.cons rfl ?_ | refine EW.subW.conv rfl ?_ (by first | rfl | exact EW.kvW (pvs_join2 _ _)) | refine EW.subW.conv rfl ?_)); (first | done | fail))) ?_; rintro hcl3 ⟨⟨ps, py, n8⟩, hrun, hlen, hpy⟩; (try dsimp only))
  all_goals try (refine EW.nm ?_)
  all_goals try (refine EW.eReg (id := 3) ?_; refine EW.eMove ?_; (first | refine EW.eLenS ?_ | refine EW.eLenG ?_ | refine EW.eLenN ?_); refine EW.eMove ?_; refine EW.eLss ?_; refine EW.eEnd ?_; (try refine EW.nm ?_))
  all_goals try (first | refine EW.eYes (x := .tmp 12) ?_ | refine EW.eNo (x := .tmp 12) ?_ | (refine EW.eCond (x := .tmp 12) ?_ ?_ <;> (intro hb hb'; (try dsimp only at hb'); (try (exfalso; first | omega | with_reducible exact absurd rfl hb')))))
  all_goals try (refine EW.nm ?_)
  all_goals (try ((try dsimp only at hrun hlen hpy); have hlt : n8 < n := (by omega); have hw1 := wr_sub (a := n) (b := n8) (by omega) (by omega); rcases hrun.inv (by omega) with ⟨i1, i2, i3, i4⟩ | ⟨k2, i1, i0, i5, i2, i3, i4⟩ | ⟨s, k2, i1, i0, i5, i6, ⟨j1, i2, i3, i4⟩ | ⟨j1, q9, f9, j2, i2, i3, i4⟩ | ⟨j1, r9, q9, j2, j3, j4, j5, j6⟩⟩; (rw [hlen] at i1; have hS2 := smallN hy hl hpy (m := n - n8) (by omega) i1; have hLo := rlost bs py true; have hSp := rspoil bs py (bs.length - py) true; subst i2; subst i3; subst i4; rcases Nat.eq_zero_or_pos n8 with hz | hz); rotate_left; rotate_left; (have hS2 := smallY hy hl hpy (m := n - n8) (by omega) i1 (by omega); have hSp := rspoil bs (py + k2) (bs.length - (py + k2)) false; subst i2; subst i3; subst i4); rotate_left; (rw [hlen] at i6; have hS2 := smallY hy hl hpy (m := n - n8) (by omega) i1 i6; have hLo := rlost bs (py + k2) false; have hRp := repeat_any s (by omega); have hwl := wE_len ps s; have hrl := repl_len s; have hz : 0 < s := (by omega); subst i2; subst i3; subst i4); rotate_left; (rw [hlen] at i6 j2; have hS2 := smallY hy hl hpy (m := n - n8) (by omega) i1 i6; have hLo := rlost bs (py + k2) false; have hRp := repeat_any s (by omega); have hwl := wE_len ps s; have hrl := repl_len s; have hMa := many_of hy hl i0 (by omega) j2; have hw2 : Wr .i64 ((n : Int) - ((n8 : Int) + (s : Int))) ((n - (n8 + s) : Nat) : Int) := (by have := wr_sub (a := n) (b := n8 + s) (by omega) (by omega); rwa [Int.natCast_add] at this); have hSp := rspoil bs q9 (bs.length - q9) f9; subst i2; subst i3; subst i4; rcases Nat.eq_zero_or_pos s with hz | hz; (have hz2 := i5 hz)); rotate_left; rotate_left; (rw [hlen] at i6 j2; have hS2 := smallY hy hl hpy (m := n - n8) (by omega) i1 i6; have hLo := rlost bs (py + k2) false; have hRp := repeat_any s (by omega); have hwl := wE_len ps s; have hrl := repl_len s; have hMa := many_of hy hl i0 (by omega) j2; have hw2 : Wr .i64 ((n : Int) - ((n8 : Int) + (s : Int))) ((n - (n8 + s) : Nat) : Int) := (by have := wr_sub (a := n) (b := n8 + s) (by omega) (by omega); rwa [Int.natCast_add] at this); rcases Nat.eq_zero_or_pos s with hz | hz; (have hz2 := i5 hz)); rotate_left; rotate_left))
  all_goals try (refine EW.eReg (id := 4) ?_; refine EW.eMove ?_; refine EW.eMove ?_; refine EW.eMove ?_; (first | refine EW.eLenS ?_ | refine EW.eLenG ?_ | refine EW.eLenN ?_); refine EW.eSub ?_ (hr' := hw1); (first | refine EW.eCallN [0, 1] Try.call70 (hS) ?_ | refine EW.eCallN [0, 1] Try.call70 (hS2) ?_); refine EW.eAssign ?_; refine EW.eEnd ?_; (try refine EW.nm ?_))
  all_goals try (refine EW.eReg (id := 5) ?_; refine EW.eMove ?_; refine EW.eEql ?_; refine EW.eMove ?_)
  all_goals try (refine EW.eGuard (j := 2) (o := ⟨some 22, _, _, _, _, _⟩) ?_ ?_ <;> (intro hb hb'; (try dsimp only at hb'); (try (exfalso; first | omega | with_reducible exact absurd rfl hb'))))
  all_goals try ((first | refine EW.eSkipT (j := 2) ?_ | refine EW.eSkipU (j := 2) ?_ | refine EW.eMove ?_); (first | refine EW.eSkipT (j := 2) ?_ | refine EW.eSkipU (j := 2) ?_ | refine EW.eLenS ?_ | refine EW.eLenG ?_ | refine EW.eLenN ?_); (first | refine EW.eSkipT (j := 2) ?_ | refine EW.eSkipU (j := 2) ?_ | refine EW.eGtr ?_); (first | refine EW.ePickT ?_ | refine EW.ePickF ?_); refine EW.eMove ?_)
  all_goals try (refine EW.eGuard (j := 7) (o := ⟨some 27, _, _, _, _, _⟩) ?_ ?_ <;> (intro hb hb'; (try dsimp only at hb'); (try (exfalso; first | omega | with_reducible exact absurd rfl hb'))))
  all_goals try ((first | refine EW.eSkipF (j := 7) ?_ | refine EW.eSkipU (j := 7) ?_ | refine EW.eMove ?_); (first | refine EW.eSkipF (j := 7) ?_ | refine EW.eSkipU (j := 7) ?_ | refine EW.eCallN [0, 1] Try.call71 (hLo) ?_); (first | refine EW.ePickT ?_ | refine EW.ePickF ?_); refine EW.eEnd ?_; (try refine EW.nm ?_))
  all_goals try (first | refine EW.eYes (x := .tmp 29) ?_ | refine EW.eNo (x := .tmp 29) ?_ | (refine EW.eCond (x := .tmp 29) ?_ ?_ <;> (intro hb hb'; (try dsimp only at hb'); (try (exfalso; first | omega | with_reducible exact absurd rfl hb')))))
  all_goals try (refine EW.nm ?_)
  all_goals try (refine EW.eReg (id := 6) ?_; refine EW.eMove ?_; refine EW.eCallN [0, 1] Try.call72 (hSp) ?_; refine EW.eEnd ?_; (try refine EW.nm ?_))
  all_goals try (refine EW.eReg (id := 7) ?_; refine EW.eMove ?_; refine EW.eCall Try.call31 (fun w => hEm w) ?_; refine EW.eBuildSlice (k := 4) ?_; refine EW.eMove ?_; refine EW.eCallN [40] Try.call73 (hRp) ?_; (first | refine EW.eAppGW (z := 4) ?_ | refine EW.eAppG (z := 4) ?_ | refine EW.eAppZW (z := 4) ?_ | refine EW.eAppZ (z := 4) ?_ | refine EW.eAppSW (z := 4) ?_ | refine EW.eAppS (z := 4) ?_ | refine EW.eAppNW (z := 4) ?_ | refine EW.eAppN (z := 4) ?_); refine EW.eAssign ?_; refine EW.eEnd ?_; (try refine EW.nm ?_))
  all_goals (try (first | refine EW.eEqB 60 (.w true (pvs (wE ps s))) (congrArg (B.w true) (pvs_join ps s)) ?_ | refine EW.eEqB 60 (.w true (pvs (wE ps s))) (by rw [pvs_app]) ?_))
  all_goals try (refine EW.eReg (id := 8) ?_; refine EW.eMove ?_; (first | refine EW.eLenS ?_ | refine EW.eLenG ?_ | refine EW.eLenN ?_); refine EW.eMove ?_; refine EW.eEql ?_; refine EW.eEnd ?_; (try refine EW.nm ?_))
  all_goals try (first | refine EW.eYes (x := .tmp 41) ?_ | refine EW.eNo (x := .tmp 41) ?_ | (refine EW.eCond (x := .tmp 41) ?_ ?_ <;> (intro hb hb'; (try dsimp only at hb'); (try (exfalso; first | omega | with_reducible exact absurd rfl hb')))))
  all_goals try (refine EW.nm ?_)
  all_goals try (refine EW.eReg (id := 9) ?_; refine EW.eMove ?_; refine EW.eMove ?_; refine EW.eMove ?_; (first | refine EW.eLenS ?_ | refine EW.eLenG ?_ | refine EW.eLenN ?_); refine EW.eSub ?_ (hr' := hw2); refine EW.eCallN [0, 1] Try.call74 (hMa) ?_; refine EW.eAssign ?_; refine EW.eEnd ?_; (try refine EW.nm ?_))
  all_goals try (refine EW.eReg (id := 10) ?_; refine EW.eMove ?_; (first | refine EW.eLenS ?_ | refine EW.eLenG ?_ | refine EW.eLenN ?_); refine EW.eEql ?_; refine EW.eEnd ?_; (try refine EW.nm ?_))
  all_goals try (first | refine EW.eYes (x := .tmp 50) ?_ | refine EW.eNo (x := .tmp 50) ?_ | (refine EW.eCond (x := .tmp 50) ?_ ?_ <;> (intro hb hb'; (try dsimp only at hb'); (try (exfalso; first | omega | with_reducible exact absurd rfl hb')))))
  all_goals try (refine EW.nm ?_)
  all_goals try (refine EW.eReg (id := 11) ?_; refine EW.eMove ?_; refine EW.eCallN [0, 1] Try.call72 (hSp) ?_; refine EW.eEnd ?_; (try refine EW.nm ?_))
  all_goals try (refine EW.eReg (id := 12) ?_; refine EW.eMove ?_; refine EW.eMove ?_; (first | refine EW.eAppGW (z := 4) ?_ | refine EW.eAppG (z := 4) ?_ | refine EW.eAppZW (z := 4) ?_ | refine EW.eAppZ (z := 4) ?_ | refine EW.eAppSW (z := 4) ?_ | refine EW.eAppS (z := 4) ?_ | refine EW.eAppNW (z := 4) ?_ | refine EW.eAppN (z := 4) ?_); refine EW.eAssign ?_; refine EW.eEnd ?_; (try refine EW.nm ?_))
  all_goals first | (fail_if_success (with_reducible refine EW.isLater ?_)) | (refine EW.eLaterN (⟨(wE ps s ++ r9, q9, n8 + s + r9.length), j6, by dsimp only; rw [List.length_append, hwl, hlen], j3⟩) [(5, 80)] (by dsimp only; omega) (by ((repeat (first | exact EW.subR.nil | refine EW.subR.l rfl ?_ | refine EW.subR.b rfl rfl ?_ | refine EW.subR.t rfl rfl ?_ | refine EW.subR.b rfl (by first | rfl | exact EW.kvW (pvs_join2 _ _)) ?_ | refine EW.subR.t rfl (by first | rfl | exact EW.kvW (pvs_join2 _ _)) ?_ | refine EW.subR.b rfl (by (first | exact EW.kvI (by first | omega | (dsimp only; omega)) | exact EW.kvG (by first | omega | (simp only [EW.nums_len, List.length_cons, List.length_nil, List.length_append, List.length_map, List.length_set, List.length_replicate, List.length_take, List.length_drop, List.length_range, EV.putL_length, Nat.reduceAdd, Nat.reduceMul, Nat.reduceSub]; omega)) (by first | omega | (simp only [EW.nums_len, List.length_cons, List.length_nil, List.length_append, List.length_map, List.length_set, List.length_replicate, List.length_take, List.length_drop, List.length_range, EV.putL_length, Nat.reduceAdd, Nat.reduceMul, Nat.reduceSub]; omega)) | exact EW.kvB (by simp [*]) | exact EW.kvW (by (first | rfl | simp)) | rfl)) ?_ | refine EW.subR.t rfl (by (first | exact EW.kvI (by first | omega | (dsimp only; omega)) | exact EW.kvG (by first | omega | (simp only [EW.nums_len, List.length_cons, List.length_nil, List.length_append, List.length_map, List.length_set, List.length_replicate, List.length_take, List.length_drop, List.length_range, EV.putL_length, Nat.reduceAdd, Nat.reduceMul, Nat.reduceSub]; omega)) (by first | omega | (simp only [EW.nums_len, List.length_cons, List.length_nil, List.length_append, List.length_map, List.length_set, List.length_replicate, List.length_take, List.length_drop, List.length_range, EV.putL_length, Nat.reduceAdd, Nat.reduceMul, Nat.reduceSub]; omega)) | exact EW.kvB (by simp [*]) | exact EW.kvW (by (first | rfl | simp)) | rfl)) ?_)); (first | done | fail))) (by (((repeat (first | with_reducible exact EW.Frm.refl | refine EW.Frm.upd ?_ rfl | refine EW.Frm.drp ?_ (by decide) rfl)); (first | done | fail)))) (by first | rfl | decide) (by (((repeat (first | exact True.intro | refine ⟨by (exact GV.no rfl rfl), ?_⟩)); (first | done | fail)))) (fun _ => rfl) hcl3 rfl (by ((first | (intro j n hn; cases hn; (first | done | fail)) | (intro n hn; cases hn; (first | done | fail)) | (intro j n hn; (repeat (first | (rcases List.mem_cons.1 hn with rfl | hn; (focus exact ⟨rfl, rfl⟩)) | (cases hn; (first | done | fail))))) | (intro n hn; (repeat (first | (rcases List.mem_cons.1 hn with rfl | hn; (focus exact ⟨rfl, rfl⟩)) | (cases hn; (first | done | fail)))))))))
  all_goals try (refine EW.nm ?_)
  all_goals try (refine EW.eReg (id := 13) ?_; refine EW.eMove ?_; refine EW.eAssign ?_; refine EW.eEnd ?_; (try refine EW.nm ?_))
  all_goals try (with_reducible refine EW.parkK ?_)
  all_goals try (refine EW.Park.mk ?_)
  all_goals (try (try dsimp only at hrun hlen hpy))
  all_goals (try (obtain ⟨i1, i2, i3⟩ := hrun.fin (by omega); subst i1; subst i2; subst i3))
  all_goals (try subst hlen)
  all_goals (try rw [wE_len] at hR)
  all_goals first | (refine EW.eLeaveN [5] hR EW.orP (by rfl) (by rfl) ?_ ?_ rfl rfl EW.nlP rfl rfl; rotate_left 1; (· ((repeat (first | exact EW.atE.nil | refine EW.atE.lt rfl ?_ | refine EW.atE.lf ?_ | refine EW.atE.b rfl EW.SameB.refl ?_ | (refine EW.atE.b rfl ?_ ?_; rotate_left 1)))))) | (refine EW.eLeaveN [60] hR EW.orP (by rfl) (by rfl) ?_ ?_ rfl rfl EW.nlP rfl rfl; rotate_left 1; (· ((repeat (first | exact EW.atE.nil | refine EW.atE.lt rfl ?_ | refine EW.atE.lf ?_ | refine EW.atE.b rfl EW.SameB.refl ?_ | (refine EW.atE.b rfl ?_ ?_; rotate_left 1))))))
  all_goals rfl
end Go.Proofs.Ytnmkpekfkfckoaa
