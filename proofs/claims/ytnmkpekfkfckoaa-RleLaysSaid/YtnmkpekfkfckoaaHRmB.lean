/- The document's Open; rle: Decode, Count. -/
import Derived.Test.YtnmkpekfkfckoaaHRmA
import Derived.Test.YtnmkpekfkfckoaaHRlL
namespace Go.Proofs.Ytnmkpekfkfckoaa
set_option linter.unusedSimpArgs false
set_option linter.unusedVariables false
open Go.RowKit EV
open SX (Wr Tv Qu Rm Sh Is conjP eqs_iff eqs_false)
open EW (PlL PlT PlV PlVs LfV Mm Bt Opn GV YT lpOf nums)
set_option maxRecDepth 20000
theorem u_inj : ∀ {l m : List Int}, By l → By m → U l = U m → l = m
  | [], [], _, _, _ => rfl
  | [], _ :: _, _, _, h => by simp [U] at h
  | _ :: _, [], _, _, h => by simp [U] at h
  | x :: l, y :: m, hl, hm, h => by
    have hx := hl x (by simp)
    have hy := hm y (by simp)
    simp only [U, List.map_cons, List.cons.injEq] at h
    have e := congrArg UInt8.toNat h.1
    rw [UInt8.toNat_ofNat', UInt8.toNat_ofNat'] at e
    rw [show x = y by omega, u_inj (fun z hz => hl z (by simp [hz])) (fun z hz => hm z (by simp [hz])) h.2]
/-- The last four bytes. -/
theorem last4 {bs : List Int} {n : Nat} (hy : By bs) (h : bs.length = n + 4) : ∃ c0 c1 c2 c3 : Nat, (c0 < 256 ∧ c1 < 256 ∧ c2 < 256 ∧ c3 < 256) ∧ (bs.getD n 0 = c0 ∧ bs.getD (n + 1) 0 = c1 ∧ bs.getD (n + 2) 0 = c2 ∧ bs.getD (n + 3) 0 = c3) ∧ bs = body bs ++ [(c0 : Int), (c1 : Int), (c2 : Int), (c3 : Int)] := by
  obtain ⟨c0, e0, h0⟩ := by_nat hy (i := n) (by omega)
  obtain ⟨c1, e1, h1⟩ := by_nat hy (i := n + 1) (by omega)
  obtain ⟨c2, e2, h2⟩ := by_nat hy (i := n + 2) (by omega)
  obtain ⟨c3, e3, h3⟩ := by_nat hy (i := n + 3) (by omega)
  refine ⟨c0, c1, c2, c3, ⟨h0, h1, h2, h3⟩, ⟨e0, e1, e2, e3⟩, ?_⟩
  rw [List.getD_eq_getElem?_getD, List.getElem?_eq_getElem (by omega)] at e0 e1 e2 e3
  simp only [Option.getD_some] at e0 e1 e2 e3
  conv => lhs; rw [← List.take_append_drop n bs]
  rw [body, show bs.length - 4 = n by omega, List.drop_eq_getElem_cons (by omega), List.drop_eq_getElem_cons (by omega), List.drop_eq_getElem_cons (by omega), List.drop_eq_getElem_cons (by omega), List.drop_of_length_le (by omega), e0, e1, e2, e3]
theorem seal_sum {q : List Int} {c0 c1 c2 c3 : Nat} (h : c0 < 256 ∧ c1 < 256 ∧ c2 < 256 ∧ c3 < 256) : q ++ [(c0 : Int), (c1 : Int), (c2 : Int), (c3 : Int)] = sealL q ↔ c0 + 256 * c1 + 65536 * c2 + 16777216 * c3 = sumN q := by
  have hs := sumN_lt q
  obtain ⟨h0, h1, h2, h3⟩ := h
  rw [sealL, List.append_cancel_left_eq]
  generalize sumN q = s at *
  constructor
  · intro h
    simp only [sealB, List.cons.injEq, and_true] at h
    omega
  · intro h
    simp only [sealB, List.cons.injEq, and_true]
    omega
theorem body_len {bs : List Int} {n : Nat} (h : bs.length = n + 4) : (body bs).length = n := by rw [List.length_take]; omega
theorem dopen_any (bs : List Int) (n : Nat) (hy : By bs) (hl : bs.length ≤ 900000) (hn : bs.length = n + 4) (q r : List Int) (e : Int) (hq9 : body bs = q) (h9 : (bs = sealL q ∧ r = q ∧ e = 0) ∨ (¬ bs = sealL q ∧ r = [] ∧ e = 40)) : OpenR 46 false bs r e := by
  obtain ⟨c0, c1, c2, c3, hc, ⟨e0, e1, e2, e3⟩, e9⟩ := last4 hy hn
  have hqb : By q := by rw [← hq9]; exact take_by hy _
  have hql : q.length = n := by rw [← hq9]; exact body_len hn
  have hS := dsum false q hqb (by omega)
  have hT := dtwinB false q (by omega)
  have hsb := nums_part (k := .u8) (b := bs) (n := bs.length - 4) (by omega)
  rw [show bs.take (bs.length - 4) = q from hq9] at hsb
  rw [hq9] at e9
  have hss := seal_sum (q := q) hc
  rw [← e9] at hss
  have hsl := sumN_lt q
  have hw : Wr .i64 ((bs.length : Int) - 4) (n : Int) := by rw [show (bs.length : Int) - 4 = (n : Int) by omega]; exact Wr.i64 (by omega)
  have hw1 : Wr .i64 ((n : Int) + 1) ((n + 1 : Nat) : Int) := by rw [show (n : Int) + 1 = ((n + 1 : Nat) : Int) by omega]; exact Wr.i64 (by omega)
  have hw2 : Wr .i64 ((n : Int) + 2) ((n + 2 : Nat) : Int) := by rw [show (n : Int) + 2 = ((n + 2 : Nat) : Int) by omega]; exact Wr.i64 (by omega)
  have hw3 : Wr .i64 ((n : Int) + 3) ((n + 3 : Nat) : Int) := by rw [show (n : Int) + 3 = ((n + 3 : Nat) : Int) by omega]; exact Wr.i64 (by omega)
  obtain ⟨h0, h1, h2, h3⟩ := hc
  generalize sumN q = s at *
  clear e9 hq9 hqb
  have h9' : (c0 + 256 * c1 + 65536 * c2 + 16777216 * c3 = s ∧ q = r ∧ e = 0) ∨ (¬ c0 + 256 * c1 + 65536 * c2 + 16777216 * c3 = s ∧ r = [] ∧ e = 40) := by
    rw [← hss]
    rcases h9 with ⟨a, b, c⟩ | h9
    · exact .inl ⟨a, b.symm, c⟩
    · exact .inr h9
  clear hss h9
  refine EW.ctEnter EW.sup1 Try.func46 rfl Try.ntmps46 rfl EW.nlP ?_; intro w0 tch ini R hR
  all_goals try (refine EW.nm ?_)
  all_goals try (refine EW.eReg (id := 0) ?_; refine EW.eAssign ?_; refine EW.eAssign ?_; refine EW.eEnd ?_; (try refine EW.nm ?_))
  all_goals try (refine EW.eReg (id := 1) ?_; refine EW.eMove ?_; (first | refine EW.eLenS ?_ | refine EW.eLenG ?_ | refine EW.eLenN ?_); refine EW.eSub ?_ (hr' := hw); refine EW.eAssign ?_; refine EW.eEnd ?_; (try refine EW.nm ?_))
  all_goals try (refine EW.eReg (id := 2) ?_; refine EW.eMove ?_; refine EW.eLss ?_; refine EW.eEnd ?_; (try refine EW.nm ?_))
  all_goals try (first | refine EW.eYes (x := .tmp 11) ?_ | refine EW.eNo (x := .tmp 11) ?_ | (refine EW.eCond (x := .tmp 11) ?_ ?_ <;> (intro hb hb'; (try dsimp only at hb'); (try (exfalso; first | omega | with_reducible exact absurd rfl hb')))))
  all_goals try (refine EW.nm ?_)
  all_goals try (refine EW.eReg (id := 3) ?_; refine EW.eAssign ?_; refine EW.eAssign ?_; refine EW.eEnd ?_; (try refine EW.nm ?_))
  all_goals try (with_reducible refine EW.parkK ?_)
  all_goals try (refine EW.eReg (id := 4) ?_; refine EW.eMove ?_; refine EW.eMove ?_; (first | refine EW.eIndexAddrS (z := 1) ?_ | refine EW.eIndexAddrG (z := 1) ?_); refine EW.eLoad1 ?_; refine EW.eConv ?_; refine EW.eMove ?_; refine EW.eMove ?_; refine EW.eAdd ?_ (hr' := hw1); (first | refine EW.eIndexAddrS (z := 1) ?_ | refine EW.eIndexAddrG (z := 1) ?_); refine EW.eLoad1 ?_; refine EW.eConv ?_; refine EW.eMul ?_; refine EW.eAdd ?_; refine EW.eMove ?_; refine EW.eMove ?_; refine EW.eAdd ?_ (hr' := hw2); (first | refine EW.eIndexAddrS (z := 1) ?_ | refine EW.eIndexAddrG (z := 1) ?_); refine EW.eLoad1 ?_; refine EW.eConv ?_; refine EW.eMul ?_; refine EW.eAdd ?_; refine EW.eMove ?_; refine EW.eMove ?_; refine EW.eAdd ?_ (hr' := hw3); (first | refine EW.eIndexAddrS (z := 1) ?_ | refine EW.eIndexAddrG (z := 1) ?_); refine EW.eLoad1 ?_; refine EW.eConv ?_; refine EW.eMul ?_; refine EW.eAdd ?_; refine EW.eAssign ?_; refine EW.eDraw ?_; (try refine EW.nm ?_))
  all_goals try (refine EW.eReg (id := 5) ?_; refine EW.eMove ?_; refine EW.eMove ?_; refine EW.eSliceSub 5 (len' := q.length) ?_ hsb (e1 := ⟨by omega⟩) (e2 := ⟨by omega⟩); refine EW.eCallN [5] Try.call67 (hS) ?_; refine EW.eAssign ?_; refine EW.eEnd ?_; (try refine EW.nm ?_))
  all_goals (try rcases h9' with ⟨hs, rfl, rfl⟩ | ⟨hs, rfl, rfl⟩)
  all_goals try (refine EW.eReg (id := 6) ?_; refine EW.eMove ?_; refine EW.eMove ?_; refine EW.eNeq ?_; refine EW.eEnd ?_; (try refine EW.nm ?_))
  all_goals try (first | refine EW.eYes (x := .tmp 47) ?_ | refine EW.eNo (x := .tmp 47) ?_ | (refine EW.eCond (x := .tmp 47) ?_ ?_ <;> (intro hb hb'; (try dsimp only at hb'); (try (exfalso; first | omega | with_reducible exact absurd rfl hb')))))
  all_goals try (refine EW.nm ?_)
  all_goals try (refine EW.eReg (id := 7) ?_; refine EW.eAssign ?_; refine EW.eAssign ?_; refine EW.eEnd ?_; (try refine EW.nm ?_))
  all_goals try (refine EW.eNilGK 2 7 1 ?_)
  all_goals try (with_reducible refine EW.parkK ?_)
  all_goals try (refine EW.eReg (id := 8) ?_; refine EW.eMove ?_; refine EW.eMove ?_; refine EW.eSliceSub 6 (len' := q.length) ?_ hsb (e1 := ⟨by omega⟩) (e2 := ⟨by omega⟩); refine EW.eCallN [6] Try.call68 (hT) ?_; refine EW.eAssign ?_; refine EW.eAssign ?_; refine EW.eEnd ?_; (try refine EW.nm ?_))
  all_goals try (with_reducible refine EW.parkK ?_)
  all_goals try (refine EW.Park.mk ?_)
  all_goals first | (refine EW.eLeaveN [20] hR EW.orP (by rfl) (by rfl) ?_ ?_ rfl rfl EW.nlP rfl rfl; rotate_left 1; (· ((repeat (first | exact EW.atE.nil | refine EW.atE.lt rfl ?_ | refine EW.atE.lf ?_ | refine EW.atE.b rfl EW.SameB.refl ?_ | (refine EW.atE.b rfl ?_ ?_; rotate_left 1)))))) | (refine EW.eLeaveN [7] hR EW.orP (by rfl) (by rfl) ?_ ?_ rfl rfl EW.nlP rfl rfl; rotate_left 1; (· ((repeat (first | exact EW.atE.nil | refine EW.atE.lt rfl ?_ | refine EW.atE.lf ?_ | refine EW.atE.b rfl EW.SameB.refl ?_ | (refine EW.atE.b rfl ?_ ?_; rotate_left 1))))))
  all_goals rfl
theorem dopen_short (bs : List Int) (hn : bs.length < 4) : OpenR 46 false bs [] 40 := by
  refine EW.ctEnter EW.sup1 Try.func46 rfl Try.ntmps46 rfl EW.nlP ?_; intro w0 tch ini R hR
  all_goals try (refine EW.nm ?_)
  all_goals try (refine EW.eReg (id := 0) ?_; refine EW.eAssign ?_; refine EW.eAssign ?_; refine EW.eEnd ?_; (try refine EW.nm ?_))
  all_goals try (refine EW.eReg (id := 1) ?_; refine EW.eMove ?_; (first | refine EW.eLenS ?_ | refine EW.eLenG ?_ | refine EW.eLenN ?_); refine EW.eSub ?_; refine EW.eAssign ?_; refine EW.eEnd ?_; (try refine EW.nm ?_))
  all_goals try (refine EW.eReg (id := 2) ?_; refine EW.eMove ?_; refine EW.eLss ?_; refine EW.eEnd ?_; (try refine EW.nm ?_))
  all_goals try (first | refine EW.eYes (x := .tmp 11) ?_ | refine EW.eNo (x := .tmp 11) ?_ | (refine EW.eCond (x := .tmp 11) ?_ ?_ <;> (intro hb hb'; (try dsimp only at hb'); (try (exfalso; first | omega | with_reducible exact absurd rfl hb')))))
  all_goals try (refine EW.nm ?_)
  all_goals try (refine EW.eReg (id := 3) ?_; refine EW.eAssign ?_; refine EW.eAssign ?_; refine EW.eEnd ?_; (try refine EW.nm ?_))
  all_goals try (refine EW.eNilGK 2 7 1 ?_)
  all_goals try (with_reducible refine EW.parkK ?_)
  all_goals try (refine EW.eReg (id := 4) ?_; refine EW.eMove ?_; refine EW.eMove ?_; (first | refine EW.eIndexAddrS (z := 1) ?_ | refine EW.eIndexAddrG (z := 1) ?_); refine EW.eLoad1 ?_; refine EW.eConv ?_; refine EW.eMove ?_; refine EW.eMove ?_; refine EW.eAdd ?_; (first | refine EW.eIndexAddrS (z := 1) ?_ | refine EW.eIndexAddrG (z := 1) ?_); refine EW.eLoad1 ?_; refine EW.eConv ?_; refine EW.eMul ?_; refine EW.eAdd ?_; refine EW.eMove ?_; refine EW.eMove ?_; refine EW.eAdd ?_; (first | refine EW.eIndexAddrS (z := 1) ?_ | refine EW.eIndexAddrG (z := 1) ?_); refine EW.eLoad1 ?_; refine EW.eConv ?_; refine EW.eMul ?_; refine EW.eAdd ?_; refine EW.eMove ?_; refine EW.eMove ?_; refine EW.eAdd ?_; (first | refine EW.eIndexAddrS (z := 1) ?_ | refine EW.eIndexAddrG (z := 1) ?_); refine EW.eLoad1 ?_; refine EW.eConv ?_; refine EW.eMul ?_; refine EW.eAdd ?_; refine EW.eAssign ?_; refine EW.eDraw ?_; (try refine EW.nm ?_))
  all_goals try (refine EW.eReg (id := 5) ?_; refine EW.eMove ?_; refine EW.eMove ?_; (first | refine EW.eSliceS (z := 1) ?_ | refine EW.eSliceG (z := 1) ?_ | refine EW.eSliceN (z := 1) ?_); fail "no contract of mullion/mullionref04.Sum"; refine EW.eAssign ?_; refine EW.eEnd ?_; (try refine EW.nm ?_))
  all_goals try (refine EW.eReg (id := 6) ?_; refine EW.eMove ?_; refine EW.eMove ?_; refine EW.eNeq ?_; refine EW.eEnd ?_; (try refine EW.nm ?_))
  all_goals try (first | refine EW.eYes (x := .tmp 47) ?_ | refine EW.eNo (x := .tmp 47) ?_ | (refine EW.eCond (x := .tmp 47) ?_ ?_ <;> (intro hb hb'; (try dsimp only at hb'); (try (exfalso; first | omega | with_reducible exact absurd rfl hb')))))
  all_goals try (refine EW.nm ?_)
  all_goals try (refine EW.eReg (id := 7) ?_; refine EW.eAssign ?_; refine EW.eAssign ?_; refine EW.eEnd ?_; (try refine EW.nm ?_))
  all_goals try (with_reducible refine EW.parkK ?_)
  all_goals try (refine EW.eReg (id := 8) ?_; refine EW.eMove ?_; refine EW.eMove ?_; (first | refine EW.eSliceS (z := 1) ?_ | refine EW.eSliceG (z := 1) ?_ | refine EW.eSliceN (z := 1) ?_); fail "no contract of mullion/mullionref04.Twin"; refine EW.eAssign ?_; refine EW.eAssign ?_; refine EW.eEnd ?_; (try refine EW.nm ?_))
  all_goals try (with_reducible refine EW.parkK ?_)
  all_goals try (refine EW.Park.mk ?_)
  all_goals (refine EW.eLeaveN [7] hR EW.orP (by rfl) (by rfl) ?_ ?_ rfl rfl EW.nlP rfl rfl; rotate_left 1; (· ((repeat (first | exact EW.atE.nil | refine EW.atE.lt rfl ?_ | refine EW.atE.lf ?_ | refine EW.atE.b rfl EW.SameB.refl ?_ | (refine EW.atE.b rfl ?_ ?_; rotate_left 1))))))
  all_goals rfl
theorem dopen_no (bs : List Int) (hy : By bs) (hl : bs.length ≤ 900000) (h : ¬ bs = sealL (body bs)) : OpenR 46 false bs [] 40 := by
  rcases Nat.lt_or_ge bs.length 4 with h4 | h4
  · exact dopen_short bs h4
  · exact dopen_any bs (bs.length - 4) hy hl (by omega) _ _ _ rfl (.inr ⟨h, rfl, rfl⟩)
theorem dopen_y (q : List Int) (hy : By q) (hl : q.length ≤ 800000) : OpenR 46 false (sealL q) q 0 :=
  dopen_any (sealL q) q.length (seal_by hy) (by rw [seal_len]; omega) (seal_len q) q q 0 (body_seal q) (.inl ⟨rfl, rfl, rfl⟩)
abbrev DecR (f : FuncId) (o : Bool) (bs : List Int) (r : List Px) (e : Int) : Prop := CT Try.prog f [.c (.g 0 0 bs.length bs.length 1)] (upd EW.emp (WB o bs)) 1 2 (.t [.inl (.g 1 0 r.length r.length 4), .inl (.v (.int .i64 e))]) (upd (upd EW.emp (WB o bs)) [(.l 1, .l true), (.b 1, .b (.w true (pvs r)))])
theorem idec_s (bs : List Int) (hy : By bs) (hl : bs.length ≤ 900000) (h : ¬ bs = sealL (body bs)) : DecR 20 false bs [] 40 := by
  have hO := iopen_no bs hy hl h
  clear h
  refine EW.ctEnter EW.sup1 Try.func20 rfl Try.ntmps20 rfl EW.nlP ?_; intro w0 tch ini R hR
  all_goals try (refine EW.nm ?_)
  all_goals try (refine EW.eReg (id := 0) ?_; refine EW.eAssign ?_; refine EW.eAssign ?_; refine EW.eEnd ?_; (try refine EW.nm ?_))
  all_goals try (refine EW.eReg (id := 1) ?_; refine EW.eMove ?_; refine EW.eCallN [0] Try.call42 (hO) ?_; refine EW.eMove ?_; (first | refine EW.eExtC ?_ | refine EW.eExtA ?_); (first | refine EW.eExtC ?_ | refine EW.eExtA ?_); refine EW.eAssign ?_; refine EW.eAssign ?_; refine EW.eEnd ?_; (try refine EW.nm ?_))
  all_goals try (refine EW.eReg (id := 2) ?_; refine EW.eMove ?_; refine EW.eNeq ?_; refine EW.eEnd ?_; (try refine EW.nm ?_))
  all_goals try (first | refine EW.eYes (x := .tmp 14) ?_ | refine EW.eNo (x := .tmp 14) ?_ | (refine EW.eCond (x := .tmp 14) ?_ ?_ <;> (intro hb hb'; (try dsimp only at hb'); (try (exfalso; first | omega | with_reducible exact absurd rfl hb')))))
  all_goals try (refine EW.nm ?_)
  all_goals try (refine EW.eReg (id := 3) ?_; refine EW.eMove ?_; refine EW.eAssign ?_; refine EW.eAssign ?_; refine EW.eEnd ?_; (try refine EW.nm ?_))
  all_goals try (refine EW.eNilGK 2 5 4 ?_)
  all_goals try (with_reducible refine EW.parkK ?_)
  all_goals try (refine EW.eReg (id := 4) ?_; refine EW.eMove ?_; fail "no contract of mullion/pack.NewReader"; refine EW.eAssign ?_; refine EW.eEnd ?_; (try refine EW.nm ?_))
  all_goals try (refine EW.eReg (id := 5) ?_; refine EW.eMove ?_; fail "no contract of mullion/rle.take"; refine EW.eAssign ?_; refine EW.eEnd ?_; (try refine EW.nm ?_))
  all_goals try (refine EW.eReg (id := 6) ?_; refine EW.eMove ?_; fail "no contract of (*mullion/pack.Reader).End"; refine EW.eNeq ?_; refine EW.eEnd ?_; (try refine EW.nm ?_))
  all_goals try (first | refine EW.eYes (x := .tmp 22) ?_ | refine EW.eNo (x := .tmp 22) ?_ | (refine EW.eCond (x := .tmp 22) ?_ ?_ <;> (intro hb hb'; (try dsimp only at hb'); (try (exfalso; first | omega | with_reducible exact absurd rfl hb')))))
  all_goals try (refine EW.nm ?_)
  all_goals try (refine EW.eReg (id := 7) ?_; refine EW.eAssign ?_; refine EW.eAssign ?_; refine EW.eEnd ?_; (try refine EW.nm ?_))
  all_goals try (with_reducible refine EW.parkK ?_)
  all_goals try (refine EW.eReg (id := 8) ?_; refine EW.eMove ?_; refine EW.eAssign ?_; refine EW.eAssign ?_; refine EW.eEnd ?_; (try refine EW.nm ?_))
  all_goals try (with_reducible refine EW.parkK ?_)
  all_goals try (refine EW.Park.mk ?_)
  all_goals (refine EW.eLeaveN [5] hR EW.orP (by rfl) (by rfl) ?_ ?_ rfl rfl EW.nlP rfl rfl; rotate_left 1; (· ((repeat (first | exact EW.atE.nil | refine EW.atE.lt rfl ?_ | refine EW.atE.lf ?_ | refine EW.atE.b rfl EW.SameB.refl ?_ | (refine EW.atE.b rfl ?_ ?_; rotate_left 1))))))
  all_goals rfl
theorem end_of (bs : List Int) (p : Nat) (f : Bool) (e : Int) (h : (f = false ∧ p = bs.length ∧ e = 0) ∨ ((f = true ∨ p < bs.length) ∧ e = 50)) : CT Try.prog 45 [.c (.p 0 0)] (upd EW.emp (WQr bs p f)) 2 2 (.c (.v (.int .i64 e))) (upd (upd EW.emp (WQr bs p f)) []) := by
  have := rend bs p (bs.length - p) f
  rcases h with ⟨rfl, rfl, rfl⟩ | ⟨h, rfl⟩
  · rwa [if_neg (by simp)] at this
  · rwa [if_pos (by rcases h with h | h; exact .inl h; exact .inr (by omega))] at this
theorem idec_any (B bs : List Int) (rl : List Px) (rp : Nat) (rf : Bool) (r : List Px) (e : Int) (hl : bs.length ≤ 800000) (hO : OpenR 42 false B bs 0) (hT : TakeC bs 0 rl rp rf) (h9 : (rf = false ∧ rp = bs.length ∧ r = rl ∧ e = 0) ∨ ((rf = true ∨ rp < bs.length) ∧ r = [] ∧ e = 160)) : DecR 20 false B r e := by
  have hN := newR true bs (by omega)
  rcases h9 with ⟨h1, h2, rfl, rfl⟩ | ⟨h1, rfl, rfl⟩
  · have hE := end_of bs rp rf 0 (.inl ⟨h1, h2, rfl⟩)
    clear h1 h2
    refine EW.ctEnter EW.sup1 Try.func20 rfl Try.ntmps20 rfl EW.nlP ?_; intro w0 tch ini R hR
    all_goals try (refine EW.nm ?_)
    all_goals try (refine EW.eReg (id := 0) ?_; refine EW.eAssign ?_; refine EW.eAssign ?_; refine EW.eEnd ?_; (try refine EW.nm ?_))
    all_goals try (refine EW.eReg (id := 1) ?_; refine EW.eMove ?_; refine EW.eCallN [0] Try.call42 (hO) ?_; refine EW.eMove ?_; (first | refine EW.eExtC ?_ | refine EW.eExtA ?_); (first | refine EW.eExtC ?_ | refine EW.eExtA ?_); refine EW.eAssign ?_; refine EW.eAssign ?_; refine EW.eEnd ?_; (try refine EW.nm ?_))
    all_goals try (refine EW.eReg (id := 2) ?_; refine EW.eMove ?_; refine EW.eNeq ?_; refine EW.eEnd ?_; (try refine EW.nm ?_))
    all_goals try (first | refine EW.eYes (x := .tmp 14) ?_ | refine EW.eNo (x := .tmp 14) ?_ | (refine EW.eCond (x := .tmp 14) ?_ ?_ <;> (intro hb hb'; (try dsimp only at hb'); (try (exfalso; first | omega | with_reducible exact absurd rfl hb')))))
    all_goals try (refine EW.nm ?_)
    all_goals try (refine EW.eReg (id := 3) ?_; refine EW.eMove ?_; refine EW.eAssign ?_; refine EW.eAssign ?_; refine EW.eEnd ?_; (try refine EW.nm ?_))
    all_goals try (with_reducible refine EW.parkK ?_)
    all_goals try (refine EW.eReg (id := 4) ?_; refine EW.eMove ?_; refine EW.eCallN [10] Try.call43 (hN) ?_; refine EW.eAssign ?_; refine EW.eEnd ?_; (try refine EW.nm ?_))
    all_goals try (refine EW.eReg (id := 5) ?_; refine EW.eMove ?_; refine EW.eCallN [20, 21] Try.call44 (hT) ?_; refine EW.eAssign ?_; refine EW.eEnd ?_; (try refine EW.nm ?_))
    all_goals try (refine EW.eReg (id := 6) ?_; refine EW.eMove ?_; refine EW.eCallN [20, 21] Try.call45 (hE) ?_; refine EW.eNeq ?_; refine EW.eEnd ?_; (try refine EW.nm ?_))
    all_goals try (first | refine EW.eYes (x := .tmp 22) ?_ | refine EW.eNo (x := .tmp 22) ?_ | (refine EW.eCond (x := .tmp 22) ?_ ?_ <;> (intro hb hb'; (try dsimp only at hb'); (try (exfalso; first | omega | with_reducible exact absurd rfl hb')))))
    all_goals try (refine EW.nm ?_)
    all_goals try (refine EW.eReg (id := 7) ?_; refine EW.eAssign ?_; refine EW.eAssign ?_; refine EW.eEnd ?_; (try refine EW.nm ?_))
    all_goals try (with_reducible refine EW.parkK ?_)
    all_goals try (refine EW.eReg (id := 8) ?_; refine EW.eMove ?_; refine EW.eAssign ?_; refine EW.eAssign ?_; refine EW.eEnd ?_; (try refine EW.nm ?_))
    all_goals try (with_reducible refine EW.parkK ?_)
    all_goals try (refine EW.Park.mk ?_)
    all_goals (refine EW.eLeaveN [30] hR EW.orP (by rfl) (by rfl) ?_ ?_ rfl rfl EW.nlP rfl rfl; rotate_left 1; (· ((repeat (first | exact EW.atE.nil | refine EW.atE.lt rfl ?_ | refine EW.atE.lf ?_ | refine EW.atE.b rfl EW.SameB.refl ?_ | (refine EW.atE.b rfl ?_ ?_; rotate_left 1))))))
    all_goals rfl
  · have hE := end_of bs rp rf 50 (.inr ⟨h1, rfl⟩)
    clear h1
    refine EW.ctEnter EW.sup1 Try.func20 rfl Try.ntmps20 rfl EW.nlP ?_; intro w0 tch ini R hR
    all_goals try (refine EW.nm ?_)
    all_goals try (refine EW.eReg (id := 0) ?_; refine EW.eAssign ?_; refine EW.eAssign ?_; refine EW.eEnd ?_; (try refine EW.nm ?_))
    all_goals try (refine EW.eReg (id := 1) ?_; refine EW.eMove ?_; refine EW.eCallN [0] Try.call42 (hO) ?_; refine EW.eMove ?_; (first | refine EW.eExtC ?_ | refine EW.eExtA ?_); (first | refine EW.eExtC ?_ | refine EW.eExtA ?_); refine EW.eAssign ?_; refine EW.eAssign ?_; refine EW.eEnd ?_; (try refine EW.nm ?_))
    all_goals try (refine EW.eReg (id := 2) ?_; refine EW.eMove ?_; refine EW.eNeq ?_; refine EW.eEnd ?_; (try refine EW.nm ?_))
    all_goals try (first | refine EW.eYes (x := .tmp 14) ?_ | refine EW.eNo (x := .tmp 14) ?_ | (refine EW.eCond (x := .tmp 14) ?_ ?_ <;> (intro hb hb'; (try dsimp only at hb'); (try (exfalso; first | omega | with_reducible exact absurd rfl hb')))))
    all_goals try (refine EW.nm ?_)
    all_goals try (refine EW.eReg (id := 3) ?_; refine EW.eMove ?_; refine EW.eAssign ?_; refine EW.eAssign ?_; refine EW.eEnd ?_; (try refine EW.nm ?_))
    all_goals try (with_reducible refine EW.parkK ?_)
    all_goals try (refine EW.eReg (id := 4) ?_; refine EW.eMove ?_; refine EW.eCallN [10] Try.call43 (hN) ?_; refine EW.eAssign ?_; refine EW.eEnd ?_; (try refine EW.nm ?_))
    all_goals try (refine EW.eReg (id := 5) ?_; refine EW.eMove ?_; refine EW.eCallN [20, 21] Try.call44 (hT) ?_; refine EW.eAssign ?_; refine EW.eEnd ?_; (try refine EW.nm ?_))
    all_goals try (refine EW.eReg (id := 6) ?_; refine EW.eMove ?_; refine EW.eCallN [20, 21] Try.call45 (hE) ?_; refine EW.eNeq ?_; refine EW.eEnd ?_; (try refine EW.nm ?_))
    all_goals try (first | refine EW.eYes (x := .tmp 22) ?_ | refine EW.eNo (x := .tmp 22) ?_ | (refine EW.eCond (x := .tmp 22) ?_ ?_ <;> (intro hb hb'; (try dsimp only at hb'); (try (exfalso; first | omega | with_reducible exact absurd rfl hb')))))
    all_goals try (refine EW.nm ?_)
    all_goals try (refine EW.eReg (id := 7) ?_; refine EW.eAssign ?_; refine EW.eAssign ?_; refine EW.eEnd ?_; (try refine EW.nm ?_))
    all_goals try (refine EW.eNilGK 2 5 4 ?_)
    all_goals try (with_reducible refine EW.parkK ?_)
    all_goals try (refine EW.eReg (id := 8) ?_; refine EW.eMove ?_; refine EW.eAssign ?_; refine EW.eAssign ?_; refine EW.eEnd ?_; (try refine EW.nm ?_))
    all_goals try (with_reducible refine EW.parkK ?_)
    all_goals try (refine EW.Park.mk ?_)
    all_goals (refine EW.eLeaveN [5] hR EW.orP (by rfl) (by rfl) ?_ ?_ rfl rfl EW.nlP rfl rfl; rotate_left 1; (· ((repeat (first | exact EW.atE.nil | refine EW.atE.lt rfl ?_ | refine EW.atE.lf ?_ | refine EW.atE.b rfl EW.SameB.refl ?_ | (refine EW.atE.b rfl ?_ ?_; rotate_left 1))))))
    all_goals rfl
theorem idec_y {l : List Px} (hg : Gd l) : DecR 20 false (sealL (rleB l)) l 0 := by
  have hle := rleB_le hg
  have h4 := hg.sp.1
  obtain ⟨k, h1, h2, h3⟩ := enc_dec hg
  have hT := take_ok (rleB l) 0 l.length k l _ false (rleB_by l) (by omega) (by omega) (by omega) (by rw [List.drop_zero]; exact h1) (by omega) (by rw [Nat.zero_add]; exact h3)
  exact idec_any _ (rleB l) l _ _ l 0 (by omega) (iopen_y _ (rleB_by l) (by omega)) hT (.inl ⟨rfl, rfl, rfl, rfl⟩)
theorem idec_n {q : List Int} (hy : By q) (hl : q.length ≤ 800000) (h : ∀ l, Gd l → ¬ rleB l = q) : DecR 20 false (sealL q) [] 160 := by
  have hO := iopen_y q hy hl
  by_cases hn : ∃ n k, num q = some (n, k) ∧ n ≤ 4096
  · obtain ⟨n, k, h1, h2⟩ := hn
    have hk := num_in (p := 0) hy (by omega) (by rw [List.drop_zero]; exact h1)
    obtain ⟨rl, rp, rf, hR, e1, e2⟩ := run_ex q n hy (by omega) n [] (0 + k) (by simp) (by simp) hk.2
    have hT := take_ok q 0 n k rl rp rf hy (by omega) (by omega) h2 (by rw [List.drop_zero]; exact h1) hk.2 hR
    refine idec_any _ q rl rp rf [] 160 hl hO hT (.inr ⟨?_, rfl, rfl⟩)
    cases rf with
    | true => exact .inl rfl
    | false =>
      refine .inr (Nat.lt_of_le_of_ne e2 fun he => ?_)
      subst he
      rw [Nat.zero_add] at hR
      obtain ⟨g1, g2⟩ := dec_enc hy h1 h2 hR
      exact h rl g1 g2
  · have hT := take_no q 0 hy (by omega) (by omega) (fun v k hv => by
      rw [List.drop_zero] at hv
      exact Nat.lt_of_not_le fun hle => hn ⟨v, k, hv, hle⟩)
    exact idec_any _ q [] 0 true [] 160 hl hO hT (.inr ⟨.inl rfl, rfl, rfl⟩)
end Go.Proofs.Ytnmkpekfkfckoaa
