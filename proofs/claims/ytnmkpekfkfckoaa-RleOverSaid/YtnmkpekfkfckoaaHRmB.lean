/- The document's Open; rle: Decode, Count. -/
import Derived.Test.YtnmkpekfkfckoaaHRmA
import Derived.Test.YtnmkpekfkfckoaaHRlL
namespace Go.Proofs.Ytnmkpekfkfckoaa
set_option linter.unusedSimpArgs false
set_option linter.unusedVariables false
open Go.RowKit EV
open SX (Wr Tv Qu Rm Sh Is conjP eqs_iff eqs_false)
open EW (PlL PlT PlV PlVs LfV Mm Bt Opn GV YT lpOf nums)
set_option maxRecDepth 20000
abbrev DecR (f : FuncId) (o : Bool) (bs : List Int) (r : List Px) (e : Int) : Prop := CT Try.prog f [.c (.g 0 0 bs.length bs.length 1)] (upd EW.emp (WB o bs)) 1 2 (.t [.inl (.g 1 0 r.length r.length 4), .inl (.v (.int .i64 e))]) (upd (upd EW.emp (WB o bs)) [(.l 1, .l true), (.b 1, .b (.w true (pvs r)))])
theorem idec_s (bs : List Int) (hy : By bs) (hl : bs.length ≤ 900000) (h : ¬ bs = sealL (body bs)) : DecR 20 false bs [] 40 := by
  have hO := iopen_no bs hy hl h
  clear h
  refine EW.ctEnter EW.sup1 Try.func20 rfl Try.ntmps20 rfl EW.nlP ?_; intro w0 tch ini R hR
  all_goals try (refine EW.nm ?_)
  all_goals try (refine EW.eReg (id := 0) ?_; refine EW.eAssign ?_; refine EW.eAssign ?_; refine EW.eEnd ?_; (try refine EW.nm ?_))
  all_goals try (refine EW.eReg (id := 1) ?_; refine EW.eMove ?_; refine EW.eCallN [0] Try.call42 (hO) ?_; refine EW.eMove ?_; (first | refine EW.eExtC ?_ | refine EW.eExtA ?_); (first | refine EW.eExtC ?_ | refine EW.eExtA ?_); refine EW.eAssign ?_; refine EW.eAssign ?_; refine EW.eEnd ?_; (try refine EW.nm ?_))
  all_goals try (refine EW.eReg (id := 2) ?_; refine EW.eMove ?_; refine EW.eNeq ?_; refine EW.eEnd ?_; (try refine EW.nm ?_))
  all_goals try (first | refine EW.eYes (x := .tmp 14) ?_ | refine EW.eNo (x := .tmp 14) ?_ | (refine EW.eCond (x := .tmp 14) ?_ ?_ <;> (intro hb hb'; (try dsimp only at hb'); (try (exfalso; first | omega | with_reducible exact absurd rfl hb')))))
  all_goals try (refine EW.nm ?_)
  all_goals try (refine EW.eReg (id := 3) ?_; refine EW.eMove ?_; refine EW.eAssign ?_; refine EW.eAssign ?_; refine EW.eEnd ?_; (try refine EW.nm ?_))
  all_goals try (refine EW.eNilGK 2 5 4 ?_)
  all_goals try (with_reducible refine EW.parkK ?_)
  all_goals try (refine EW.eReg (id := 4) ?_; refine EW.eMove ?_; fail "no contract of mullion/pack.NewReader"; refine EW.eAssign ?_; refine EW.eEnd ?_; (try refine EW.nm ?_))
  all_goals try (refine EW.eReg (id := 5) ?_; refine EW.eMove ?_; fail "no contract of mullion/rle.take"; refine EW.eAssign ?_; refine EW.eEnd ?_; (try refine EW.nm ?_))
  all_goals try (refine EW.eReg (id := 6) ?_; refine EW.eMove ?_; fail "no contract of (*mullion/pack.Reader).End"; refine EW.eNeq ?_; refine EW.eEnd ?_; (try refine EW.nm ?_))
  all_goals try (first | refine EW.eYes (x := .tmp 22) ?_ | refine EW.eNo (x := .tmp 22) ?_ | (refine EW.eCond (x := .tmp 22) ?_ ?_ <;> (intro hb hb'; (try dsimp only at hb'); (try (exfalso; first | omega | with_reducible exact absurd rfl hb')))))
  all_goals try (refine EW.nm ?_)
  all_goals try (refine EW.eReg (id := 7) ?_; refine EW.eAssign ?_; refine EW.eAssign ?_; refine EW.eEnd ?_; (try refine EW.nm ?_))
  all_goals try (with_reducible refine EW.parkK ?_)
  all_goals try (refine EW.eReg (id := 8) ?_; refine EW.eMove ?_; refine EW.eAssign ?_; refine EW.eAssign ?_; refine EW.eEnd ?_; (try refine EW.nm ?_))
  all_goals try (with_reducible refine EW.parkK ?_)
  all_goals try (refine EW.Park.mk ?_)
  all_goals (refine EW.eLeaveN [5] hR EW.orP (by rfl) (by rfl) ?_ ?_ rfl rfl EW.nlP rfl rfl; rotate_left 1; (· ((repeat (first | exact EW.atE.nil | refine EW.atE.lt rfl ?_ | refine EW.atE.lf ?_ | refine EW.atE.b rfl EW.SameB.refl ?_ | (refine EW.atE.b rfl ?_ ?_; rotate_left 1))))))
  all_goals rfl
theorem end_of (bs : List Int) (p : Nat) (f : Bool) (e : Int) (h : (f = false ∧ p = bs.length ∧ e = 0) ∨ ((f = true ∨ p < bs.length) ∧ e = 50)) : CT Try.prog 45 [.c (.p 0 0)] (upd EW.emp (WQr bs p f)) 2 2 (.c (.v (.int .i64 e))) (upd (upd EW.emp (WQr bs p f)) []) := by
  have := rend bs p (bs.length - p) f
  rcases h with ⟨rfl, rfl, rfl⟩ | ⟨h, rfl⟩
  · rwa [if_neg (by simp)] at this
  · rwa [if_pos (by rcases h with h | h; exact .inl h; exact .inr (by omega))] at this
theorem idec_any (B bs : List Int) (rl : List Px) (rp : Nat) (rf : Bool) (r : List Px) (e : Int) (hl : bs.length ≤ 800000) (hO : OpenR 42 false B bs 0) (hT : TakeC bs 0 rl rp rf) (h9 : (rf = false ∧ rp = bs.length ∧ r = rl ∧ e = 0) ∨ ((rf = true ∨ rp < bs.length) ∧ r = [] ∧ e = 160)) : DecR 20 false B r e := by
  have hN := newR true bs (by omega)
  rcases h9 with ⟨h1, h2, rfl, rfl⟩ | ⟨h1, rfl, rfl⟩
  · have hE := end_of bs rp rf 0 (.inl ⟨h1, h2, rfl⟩)
    clear h1 h2
    refine EW.ctEnter EW.sup1 Try.func20 rfl Try.ntmps20 rfl EW.nlP ?_; intro w0 tch ini R hR
    all_goals try (refine EW.nm ?_)
    all_goals try (refine EW.eReg (id := 0) ?_; refine EW.eAssign ?_; refine EW.eAssign ?_; refine EW.eEnd ?_; (try refine EW.nm ?_))
    all_goals try (refine EW.eReg (id := 1) ?_; refine EW.eMove ?_; refine EW.eCallN [0] Try.call42 (hO) ?_; refine EW.eMove ?_; (first | refine EW.eExtC ?_ | refine EW.eExtA ?_); (first | refine EW.eExtC ?_ | refine EW.eExtA ?_); refine EW.eAssign ?_; refine EW.eAssign ?_; refine EW.eEnd ?_; (try refine EW.nm ?_))
    all_goals try (refine EW.eReg (id := 2) ?_; refine EW.eMove ?_; refine EW.eNeq ?_; refine EW.eEnd ?_; (try refine EW.nm ?_))
    all_goals try (first | refine EW.eYes (x := .tmp 14) ?_ | refine EW.eNo (x := .tmp 14) ?_ | (refine EW.eCond (x := .tmp 14) ?_ ?_ <;> (intro hb hb'; (try dsimp only at hb'); (try (exfalso; first | omega | with_reducible exact absurd rfl hb')))))
    all_goals try (refine EW.nm ?_)
    all_goals try (refine EW.eReg (id := 3) ?_; refine EW.eMove ?_; refine EW.eAssign ?_; refine EW.eAssign ?_; refine EW.eEnd ?_; (try refine EW.nm ?_))
    all_goals try (with_reducible refine EW.parkK ?_)
    all_goals try (refine EW.eReg (id := 4) ?_; refine EW.eMove ?_; refine EW.eCallN [10] Try.call43 (hN) ?_; refine EW.eAssign ?_; refine EW.eEnd ?_; (try refine EW.nm ?_))
    all_goals try (refine EW.eReg (id := 5) ?_; refine EW.eMove ?_; refine EW.eCallN [20, 21] Try.call44 (hT) ?_; refine EW.eAssign ?_; refine EW.eEnd ?_; (try refine EW.nm ?_))
    all_goals try (refine EW.eReg (id := 6) ?_; refine EW.eMove ?_; refine EW.eCallN [20, 21] Try.call45 (hE) ?_; refine EW.eNeq ?_; refine EW.eEnd ?_; (try refine EW.nm ?_))
    all_goals try (first | refine EW.eYes (x := .tmp 22) ?_ | refine EW.eNo (x := .tmp 22) ?_ | (refine EW.eCond (x := .tmp 22) ?_ ?_ <;> (intro hb hb'; (try dsimp only at hb'); (try (exfalso; first | omega | with_reducible exact absurd rfl hb')))))
    all_goals try (refine EW.nm ?_)
    all_goals try (refine EW.eReg (id := 7) ?_; refine EW.eAssign ?_; refine EW.eAssign ?_; refine EW.eEnd ?_; (try refine EW.nm ?_))
    all_goals try (with_reducible refine EW.parkK ?_)
    all_goals try (refine EW.eReg (id := 8) ?_; refine EW.eMove ?_; refine EW.eAssign ?_; refine EW.eAssign ?_; refine EW.eEnd ?_; (try refine EW.nm ?_))
    all_goals try (with_reducible refine EW.parkK ?_)
    all_goals try (refine EW.Park.mk ?_)
    all_goals (refine EW.eLeaveN [30] hR EW.orP (by rfl) (by rfl) ?_ ?_ rfl rfl EW.nlP rfl rfl; rotate_left 1; (· ((repeat (first | exact EW.atE.nil | refine EW.atE.lt rfl ?_ | refine EW.atE.lf ?_ | refine EW.atE.b rfl EW.SameB.refl ?_ | (refine EW.atE.b rfl ?_ ?_; rotate_left 1))))))
    all_goals rfl
  · have hE := end_of bs rp rf 50 (.inr ⟨h1, rfl⟩)
    clear h1
    refine EW.ctEnter EW.sup1 Try.func20 rfl Try.ntmps20 rfl EW.nlP ?_; intro w0 tch ini R hR
    all_goals try (refine EW.nm ?_)
    all_goals try (refine EW.eReg (id := 0) ?_; refine EW.eAssign ?_; refine EW.eAssign ?_; refine EW.eEnd ?_; (try refine EW.nm ?_))
    all_goals try (refine EW.eReg (id := 1) ?_; refine EW.eMove ?_; refine EW.eCallN [0] Try.call42 (hO) ?_; refine EW.eMove ?_; (first | refine EW.eExtC ?_ | refine EW.eExtA ?_); (first | refine EW.eExtC ?_ | refine EW.eExtA ?_); refine EW.eAssign ?_; refine EW.eAssign ?_; refine EW.eEnd ?_; (try refine EW.nm ?_))
    all_goals try (refine EW.eReg (id := 2) ?_; refine EW.eMove ?_; refine EW.eNeq ?_; refine EW.eEnd ?_; (try refine EW.nm ?_))
    all_goals try (first | refine EW.eYes (x := .tmp 14) ?_ | refine EW.eNo (x := .tmp 14) ?_ | (refine EW.eCond (x := .tmp 14) ?_ ?_ <;> (intro hb hb'; (try dsimp only at hb'); (try (exfalso; first | omega | with_reducible exact absurd rfl hb')))))
    all_goals try (refine EW.nm ?_)
    all_goals try (refine EW.eReg (id := 3) ?_; refine EW.eMove ?_; refine EW.eAssign ?_; refine EW.eAssign ?_; refine EW.eEnd ?_; (try refine EW.nm ?_))
    all_goals try (with_reducible refine EW.parkK ?_)
    all_goals try (refine EW.eReg (id := 4) ?_; refine EW.eMove ?_; refine EW.eCallN [10] Try.call43 (hN) ?_; refine EW.eAssign ?_; refine EW.eEnd ?_; (try refine EW.nm ?_))
    all_goals try (refine EW.eReg (id := 5) ?_; refine EW.eMove ?_; refine EW.eCallN [20, 21] Try.call44 (hT) ?_; refine EW.eAssign ?_; refine EW.eEnd ?_; (try refine EW.nm ?_))
    all_goals try (refine EW.eReg (id := 6) ?_; refine EW.eMove ?_; refine EW.eCallN [20, 21] Try.call45 (hE) ?_; refine EW.eNeq ?_; refine EW.eEnd ?_; (try refine EW.nm ?_))
    all_goals try (first | refine EW.eYes (x := .tmp 22) ?_ | refine EW.eNo (x := .tmp 22) ?_ | (refine EW.eCond (x := .tmp 22) ?_ ?_ <;> (intro hb hb'; (try dsimp only at hb'); (try (exfalso; first | omega | with_reducible exact absurd rfl hb')))))
    all_goals try (refine EW.nm ?_)
    all_goals try (refine EW.eReg (id := 7) ?_; refine EW.eAssign ?_; refine EW.eAssign ?_; refine EW.eEnd ?_; (try refine EW.nm ?_))
    all_goals try (refine EW.eNilGK 2 5 4 ?_)
    all_goals try (with_reducible refine EW.parkK ?_)
    all_goals try (refine EW.eReg (id := 8) ?_; refine EW.eMove ?_; refine EW.eAssign ?_; refine EW.eAssign ?_; refine EW.eEnd ?_; (try refine EW.nm ?_))
    all_goals try (with_reducible refine EW.parkK ?_)
    all_goals try (refine EW.Park.mk ?_)
    all_goals (refine EW.eLeaveN [5] hR EW.orP (by rfl) (by rfl) ?_ ?_ rfl rfl EW.nlP rfl rfl; rotate_left 1; (· ((repeat (first | exact EW.atE.nil | refine EW.atE.lt rfl ?_ | refine EW.atE.lf ?_ | refine EW.atE.b rfl EW.SameB.refl ?_ | (refine EW.atE.b rfl ?_ ?_; rotate_left 1))))))
    all_goals rfl
theorem idec_y {l : List Px} (hg : Gd l) : DecR 20 false (sealL (rleB l)) l 0 := by
  have hle := rleB_le hg
  have h4 := hg.sp.1
  obtain ⟨k, h1, h2, h3⟩ := enc_dec hg
  have hT := take_ok (rleB l) 0 l.length k l _ false (rleB_by l) (by omega) (by omega) (by omega) (by rw [List.drop_zero]; exact h1) (by omega) (by rw [Nat.zero_add]; exact h3)
  exact idec_any _ (rleB l) l _ _ l 0 (by omega) (iopen_y _ (rleB_by l) (by omega)) hT (.inl ⟨rfl, rfl, rfl, rfl⟩)
theorem idec_n {q : List Int} (hy : By q) (hl : q.length ≤ 800000) (h : ∀ l, Gd l → ¬ rleB l = q) : DecR 20 false (sealL q) [] 160 := by
  have hO := iopen_y q hy hl
  by_cases hn : ∃ n k, num q = some (n, k) ∧ n ≤ 4096
  · obtain ⟨n, k, h1, h2⟩ := hn
    have hk := num_in (p := 0) hy (by omega) (by rw [List.drop_zero]; exact h1)
    obtain ⟨rl, rp, rf, hR, e1, e2⟩ := run_ex q n hy (by omega) n [] (0 + k) (by simp) (by simp) hk.2
    have hT := take_ok q 0 n k rl rp rf hy (by omega) (by omega) h2 (by rw [List.drop_zero]; exact h1) hk.2 hR
    refine idec_any _ q rl rp rf [] 160 hl hO hT (.inr ⟨?_, rfl, rfl⟩)
    cases rf with
    | true => exact .inl rfl
    | false =>
      refine .inr (Nat.lt_of_le_of_ne e2 fun he => ?_)
      subst he
      rw [Nat.zero_add] at hR
      obtain ⟨g1, g2⟩ := dec_enc hy h1 h2 hR
      exact h rl g1 g2
  · have hT := take_no q 0 hy (by omega) (by omega) (fun v k hv => by
      rw [List.drop_zero] at hv
      exact Nat.lt_of_not_le fun hle => hn ⟨v, k, hv, hle⟩)
    exact idec_any _ q [] 0 true [] 160 hl hO hT (.inr ⟨.inl rfl, rfl, rfl⟩)
/-- Decode, of any bytes. -/
theorem dec_one {b : List Int} (hy : By b) (hl : b.length ≤ 800000) : ∃ r e, r.length ≤ 4096 ∧ DecR 20 false b r e ∧ ((Gd r ∧ b = sealL (rleB r) ∧ e = 0) ∨ (r = [] ∧ (e = 40 ∨ e = 160))) := by
  by_cases hs : b = sealL (body b)
  · have hyb := take_by hy (b.length - 4)
    have hlb : (body b).length ≤ 800000 := by rw [List.length_take]; omega
    by_cases hg : ∃ l, Gd l ∧ rleB l = body b
    · obtain ⟨l, hg, hq⟩ := hg
      rw [← hq] at hs
      rw [hs]
      exact ⟨l, 0, hg.sp.1, idec_y hg, .inl ⟨hg, rfl, rfl⟩⟩
    · have hn : ∀ l, Gd l → ¬ rleB l = body b := fun l h1 h2 => hg ⟨l, h1, h2⟩
      rw [hs]
      exact ⟨[], 160, by simp, idec_n hyb hlb hn, .inr ⟨rfl, .inr rfl⟩⟩
  · exact ⟨[], 40, by simp, idec_s b hy (by omega) hs, .inr ⟨rfl, .inl rfl⟩⟩
end Go.Proofs.Ytnmkpekfkfckoaa
