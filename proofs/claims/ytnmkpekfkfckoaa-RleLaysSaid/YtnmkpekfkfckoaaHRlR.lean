/- crc.Open; the document's. -/
import Derived.Test.YtnmkpekfkfckoaaHRlL
namespace Go.Proofs.Ytnmkpekfkfckoaa
set_option linter.unusedSimpArgs false
set_option linter.unusedVariables false
open Go.RowKit EV
open SX (Wr Tv Qu Rm Sh Is conjP eqs_iff eqs_false)
open EW (PlL PlT PlV PlVs LfV Mm Bt Opn GV YT lpOf nums)
set_option maxRecDepth 20000
noncomputable def WBB (o o' : Bool) (xs ys : List Int) : Ws := [(.l 0, .l true), (.b 0, .b (.w o (nums .u8 xs))), (.l 1, .l true), (.b 1, .b (.w o' (nums .u8 ys)))]
theorem less_int {xs ys : List Int} {i : Nat} (hp : ∀ q, q < i → xs.getD q 0 = ys.getD q 0) (h : xs.getD i 0 = ys.getD i 0) : ∀ q, q < i + 1 → xs.getD q 0 = ys.getD q 0 := fun q hq => by
  rcases Nat.lt_or_ge q i with h1 | h1
  · exact hp q h1
  · obtain rfl : q = i := by omega
    exact h
theorem list_int {xs ys : List Int} (hl : xs.length = ys.length) (h : ∀ q, q < xs.length → xs.getD q 0 = ys.getD q 0) : xs = ys := by
  apply List.ext_getElem?
  intro i
  rcases Nat.lt_or_ge i xs.length with h1 | h1
  · have := h i h1
    rw [List.getD_eq_getElem?_getD, List.getD_eq_getElem?_getD, List.getElem?_eq_getElem h1, List.getElem?_eq_getElem (by omega)] at this
    rw [List.getElem?_eq_getElem h1, List.getElem?_eq_getElem (by omega)]
    simpa using this
  · rw [List.getElem?_eq_none h1, List.getElem?_eq_none (by omega)]
theorem bequal (o o' : Bool) (xs ys : List Int) (hxs : xs.length ≤ 1000000) (hys : ys.length ≤ 1000000) : CT Try.prog 69 [.c (.g 0 0 xs.length xs.length 1), .c (.g 1 0 ys.length ys.length 1)] (upd EW.emp (WBB o o' xs ys)) 2 2 (.c (.v (.bool (decide (xs = ys))))) (upd (upd EW.emp (WBB o o' xs ys)) []) := by
  refine EW.ctEnter EW.sup1 Try.func69 rfl Try.ntmps69 rfl EW.nlP ?_; intro w0 tch ini R hR
  all_goals try (refine EW.nm ?_)
  all_goals try (refine EW.eReg (id := 0) ?_; refine EW.eAssign ?_; refine EW.eEnd ?_; (try refine EW.nm ?_))
  all_goals try (refine EW.eReg (id := 1) ?_; refine EW.eMove ?_; (first | refine EW.eLenS ?_ | refine EW.eLenG ?_ | refine EW.eLenN ?_); refine EW.eMove ?_; (first | refine EW.eLenS ?_ | refine EW.eLenG ?_ | refine EW.eLenN ?_); refine EW.eNeq ?_; refine EW.eEnd ?_; (try refine EW.nm ?_))
  all_goals try (first | refine EW.eYes (x := .tmp 10) ?_ | refine EW.eNo (x := .tmp 10) ?_ | (refine EW.eCond (x := .tmp 10) ?_ ?_ <;> (intro hb hb'; (try dsimp only at hb'); (try (exfalso; first | omega | with_reducible exact absurd rfl hb')))))
  all_goals try (refine EW.nm ?_)
  all_goals try (refine EW.eReg (id := 2) ?_; refine EW.eAssign ?_; refine EW.eEnd ?_; (try refine EW.nm ?_))
  all_goals try (with_reducible refine EW.parkK ?_)
  all_goals try (refine EW.eReg (id := 3) ?_; refine EW.eMove ?_; (first | refine EW.eLenS ?_ | refine EW.eLenG ?_ | refine EW.eLenN ?_); refine EW.eMove ?_; refine EW.eEnd ?_; (try refine EW.nm ?_))
  all_goals first | (fail_if_success (refine EW.eUnroll 1 ?_)) | (refine EW.eLoopD [4, 5, 13, 14, 15, 16, 17, 18, 19, 20, 21, 22, 23, 24, 25] 1000000 (fun j : {i : Nat // i ≤ xs.length ∧ xs.length = ys.length ∧ ∀ q, q < i → xs.getD q 0 = ys.getD q 0} => [(.t 13, .v (.c (.v (.int .i64 j.1))))]) (fun j => xs.length - j.1) (⟨0, by omega, by omega, fun q h => absurd h (by omega)⟩) (by ((repeat (first | exact EW.subW.nil | refine EW.subW.cons rfl ?_ | refine EW.subW.conv rfl ?_)); (first | done | fail))) ?_; rintro hcl4 ⟨i, hi, hl, hp⟩; (try dsimp only))
  all_goals try (refine EW.nm ?_)
  all_goals try (refine EW.eReg (id := 4) ?_; refine EW.eLss ?_; refine EW.eEnd ?_; (try refine EW.nm ?_))
  all_goals try (first | refine EW.eYes (x := .tmp 14) ?_ | refine EW.eNo (x := .tmp 14) ?_ | (refine EW.eCond (x := .tmp 14) ?_ ?_ <;> (intro hb hb'; (try dsimp only at hb'); (try (exfalso; first | omega | with_reducible exact absurd rfl hb')))))
  all_goals try (refine EW.nm ?_)
  all_goals (try ((try dsimp only at hi); have hil : i ≤ xs.length := (by omega); rcases Int.decEq (xs.getD i 0) (ys.getD i 0) with he | he))
  all_goals try (refine EW.eReg (id := 5) ?_; refine EW.eMove ?_; refine EW.eAssign ?_; refine EW.eEnd ?_; (try refine EW.nm ?_))
  all_goals try (refine EW.eReg (id := 6) ?_; refine EW.eMove ?_; refine EW.eMove ?_; (first | refine EW.eIndexAddrS (z := 1) ?_ | refine EW.eIndexAddrG (z := 1) ?_); refine EW.eLoad1 ?_; refine EW.eMove ?_; refine EW.eMove ?_; (first | refine EW.eIndexAddrS (z := 1) ?_ | refine EW.eIndexAddrG (z := 1) ?_); refine EW.eLoad1 ?_; refine EW.eNeq ?_; refine EW.eDraw ?_; (try refine EW.nm ?_))
  all_goals try (first | refine EW.eYes (x := .tmp 24) ?_ | refine EW.eNo (x := .tmp 24) ?_ | (refine EW.eCond (x := .tmp 24) ?_ ?_ <;> (intro hb hb'; (try dsimp only at hb'); (try (exfalso; first | omega | with_reducible exact absurd rfl hb')))))
  all_goals try (refine EW.nm ?_)
  all_goals try (refine EW.eReg (id := 7) ?_; refine EW.eAssign ?_; refine EW.eEnd ?_; (try refine EW.nm ?_))
  all_goals try (with_reducible refine EW.parkK ?_)
  all_goals try (refine EW.eReg (id := 8) ?_; refine EW.eAdd ?_; refine EW.eMove ?_; refine EW.eEnd ?_; (try refine EW.nm ?_))
  all_goals first | (fail_if_success (with_reducible refine EW.isLater ?_)) | (refine EW.eLaterD (⟨i + 1, by omega, hl, less_int hp he⟩) (by dsimp only; omega) (by ((repeat (first | exact EW.subW.nil | refine EW.subW.cons rfl ?_ | refine EW.subW.conv rfl ?_)); (first | done | fail))) hcl4)
  all_goals try (refine EW.nm ?_)
  all_goals try (refine EW.eReg (id := 9) ?_; refine EW.eAssign ?_; refine EW.eEnd ?_; (try refine EW.nm ?_))
  all_goals try (with_reducible refine EW.parkK ?_)
  all_goals try (refine EW.Park.mk ?_)
  all_goals (refine EW.eLeaveN [] hR EW.orP (by rfl) (by rfl) ?_ ?_ rfl rfl EW.nlP rfl rfl; rotate_left 1; (· ((repeat (first | exact EW.atE.nil | refine EW.atE.lt rfl ?_ | refine EW.atE.lf ?_ | refine EW.atE.b rfl EW.SameB.refl ?_ | (refine EW.atE.b rfl ?_ ?_; rotate_left 1))))))
  all_goals refine congrArg (fun b => V.c (C.v (Value.bool b))) ?_
  all_goals first | exact (decide_eq_true (list_int hl fun q hq => hp q (by omega))).symm | (refine (decide_eq_false fun h => ?_).symm; subst h; omega) | (refine (decide_eq_false fun h => ?_).symm; subst h; exact he rfl)
/-- The bytes but for the last four. -/
abbrev body (b : List Int) : List Int := b.take (b.length - 4)
theorem body_seal (b : List Int) : body (sealL b) = b := by
  rw [body, seal_len, show b.length + 4 - 4 = b.length by omega, sealL, List.take_left]
theorem more_o (o : Bool) (x : Int) (bs : List Int) (p n lb : Nat) (h : p + n ≤ bs.length) (hl : bs.length ≤ 1000000) : CT Try.prog 83 [.c (.v (.int .u32 x)), .c (.g 0 p n lb 1)] (upd EW.emp [(.l 0, .l true), (.b 0, .b (.w o (nums .u8 bs)))]) 1 1 (.c (.v (.int .u32 (invV (crcV (invV x) ((bs.drop p).take n)))))) (upd (upd EW.emp [(.l 0, .l true), (.b 0, .b (.w o (nums .u8 bs)))]) []) := by
  have h0 : crcV (invV x) ((bs.drop p).take 0) = invV x := by simp [crcV]
  refine EW.ctEnter EW.sup1 Try.func83 rfl Try.ntmps83 rfl EW.nlP ?_; intro w0 tch ini R hR
  all_goals try (refine EW.nm ?_)
  all_goals try (refine EW.eReg (id := 0) ?_; refine EW.eAssign ?_; refine EW.eEnd ?_; (try refine EW.nm ?_))
  all_goals try (refine EW.eReg (id := 1) ?_; refine EW.eMove ?_; refine EW.eInv ?_ (r := invV x) (hr' := ⟨rfl⟩); refine EW.eAssign ?_; refine EW.eEnd ?_; (try refine EW.nm ?_))
  all_goals try (refine EW.eReg (id := 2) ?_; refine EW.eMove ?_; (first | refine EW.eLenS ?_ | refine EW.eLenG ?_ | refine EW.eLenN ?_); refine EW.eMove ?_; refine EW.eEnd ?_; (try refine EW.nm ?_))
  all_goals first | (fail_if_success (refine EW.eUnroll 1 ?_)) | (refine EW.eLoopD [5, 7, 12, 13, 14, 15, 16, 17, 18, 19, 20, 21, 22, 23, 24, 25] 9 (fun j : {k : Nat // k ≤ n} => [(.t 12, .v (.c (.v (.int .i64 j.1)))), (.t 5, .v (.c (.v (.int .u32 (crcV (invV x) ((bs.drop p).take j.1))))))]) (fun j => n - j.1) (⟨0, by omega⟩) (by ((repeat (first | exact EW.subW.nil | refine EW.subW.cons rfl ?_ | refine EW.subW.conv rfl ?_ (by first | exact EW.kvI (crcV_succ (invV x) bs p k (by omega)).symm | exact EW.kvI h0.symm) | refine EW.subW.conv rfl ?_)); (first | done | fail))) ?_; rintro hcl3 ⟨k, hk⟩; (try dsimp only))
  all_goals try (refine EW.nm ?_)
  all_goals try (refine EW.eReg (id := 3) ?_; refine EW.eLss ?_; refine EW.eEnd ?_; (try refine EW.nm ?_))
  all_goals try (first | refine EW.eYes (x := .tmp 13) ?_ | refine EW.eNo (x := .tmp 13) ?_ | (refine EW.eCond (x := .tmp 13) ?_ ?_ <;> (intro hb hb'; (try dsimp only at hb'); (try (exfalso; first | omega | with_reducible exact absurd rfl hb')))))
  all_goals try (refine EW.nm ?_)
  all_goals try (refine EW.eReg (id := 4) ?_; (first | refine EW.eIndexAddrS (z := 1) ?_ | refine EW.eIndexAddrG (z := 1) ?_); refine EW.eLoad1 ?_; refine EW.eAssign ?_; refine EW.eEnd ?_; (try refine EW.nm ?_))
  all_goals try (refine EW.eReg (id := 5) ?_; refine EW.eMove ?_; refine EW.eMove ?_; refine EW.eConv ?_ (hr' := ⟨rfl⟩); refine EW.eXor ?_ (r := xorV _ _) (hr' := ⟨rfl⟩); refine EW.eAssign ?_; refine EW.eEnd ?_; (try refine EW.nm ?_))
  all_goals try (refine EW.eReg (id := 6) ?_; refine EW.eMove ?_; refine EW.eEnd ?_; (try refine EW.nm ?_))
  all_goals try (refine EW.eUnroll 9 ?_)
  all_goals try (refine EW.nm ?_)
  iterate 9 (
    all_goals try (refine EW.eReg (id := 7) ?_; refine EW.eLss ?_; refine EW.eEnd ?_; (try refine EW.nm ?_))
    all_goals try (first | refine EW.eYes (x := .tmp 21) ?_ | refine EW.eNo (x := .tmp 21) ?_ | (refine EW.eCond (x := .tmp 21) ?_ ?_ <;> (intro hb hb'; (try dsimp only at hb'); (try (exfalso; first | omega | with_reducible exact absurd rfl hb')))))
    all_goals try (refine EW.nm ?_)
    all_goals try (refine EW.eReg (id := 8) ?_; refine EW.eMove ?_; refine EW.eCall Try.call96 (fun w => step_ok _ w) ?_; refine EW.eAssign ?_; refine EW.eEnd ?_; (try refine EW.nm ?_))
    all_goals try (refine EW.eReg (id := 9) ?_; refine EW.eAdd ?_; refine EW.eMove ?_; refine EW.eEnd ?_; (try refine EW.nm ?_)))
  all_goals try (refine EW.eReg (id := 10) ?_; refine EW.eAdd ?_; refine EW.eMove ?_; refine EW.eEnd ?_; (try refine EW.nm ?_))
  all_goals first | (fail_if_success (with_reducible refine EW.isLater ?_)) | (refine EW.eLaterD (⟨k + 1, by omega⟩) (by dsimp only; omega) (by ((repeat (first | exact EW.subW.nil | refine EW.subW.cons rfl ?_ | refine EW.subW.conv rfl ?_ (by first | exact EW.kvI (crcV_succ (invV x) bs p k (by omega)).symm | exact EW.kvI h0.symm) | refine EW.subW.conv rfl ?_)); (first | done | fail))) hcl3)
  all_goals try (refine EW.nm ?_)
  all_goals try (refine EW.eReg (id := 11) ?_; refine EW.eMove ?_; refine EW.eInv ?_ (r := invV _) (hr' := ⟨rfl⟩); refine EW.eAssign ?_; refine EW.eEnd ?_; (try refine EW.nm ?_))
  all_goals try (with_reducible refine EW.parkK ?_)
  all_goals try (refine EW.Park.mk ?_)
  all_goals (obtain rfl : k = n := by omega)
  all_goals (refine EW.eLeaveN [] hR EW.orP (by rfl) (by rfl) ?_ ?_ rfl rfl EW.nlP rfl rfl; rotate_left 1; (· ((repeat (first | exact EW.atE.nil | refine EW.atE.lt rfl ?_ | refine EW.atE.lf ?_ | refine EW.atE.b rfl EW.SameB.refl ?_ | (refine EW.atE.b rfl ?_ ?_; rotate_left 1))))))
  all_goals rfl
theorem isum_o (o : Bool) (bs : List Int) (hy : By bs) (hl : bs.length ≤ 1000000) : CT Try.prog 55 [.c (.g 0 0 bs.length bs.length 1)] (upd EW.emp (WB o bs)) 1 1 (.c (.v (.int .u32 (sumN bs : Int)))) (upd (upd EW.emp (WB o bs)) []) := by
  have hM := more_o o 0 bs 0 bs.length bs.length (by omega) hl
  rw [List.drop_zero, List.take_length] at hM
  have e0 : invV 0 = ((4294967295 : Nat) : Int) := invV_nat (n := 0) (by omega)
  have e1 := crcV_nat bs (n := 4294967295) (by omega) hy
  rw [e0, e1, invV_nat (crcN_lt bs (by omega))] at hM
  unfold sumN
  generalize 4294967295 - crcN 4294967295 bs = s at *
  refine EW.ctEnter EW.sup1 Try.func55 rfl Try.ntmps55 rfl EW.nlP ?_; intro w0 tch ini R hR
  all_goals try (refine EW.nm ?_)
  all_goals try (refine EW.eReg (id := 0) ?_; refine EW.eAssign ?_; refine EW.eEnd ?_; (try refine EW.nm ?_))
  all_goals try (refine EW.eReg (id := 1) ?_; refine EW.eMove ?_; refine EW.eCallN [0] Try.call83 (hM) ?_; refine EW.eAssign ?_; refine EW.eEnd ?_; (try refine EW.nm ?_))
  all_goals try (with_reducible refine EW.parkK ?_)
  all_goals try (refine EW.Park.mk ?_)
  all_goals (refine EW.eLeaveN [] hR EW.orP (by rfl) (by rfl) ?_ ?_ rfl rfl EW.nlP rfl rfl; rotate_left 1; (· ((repeat (first | exact EW.atE.nil | refine EW.atE.lt rfl ?_ | refine EW.atE.lf ?_ | refine EW.atE.b rfl EW.SameB.refl ?_ | (refine EW.atE.b rfl ?_ ?_; rotate_left 1))))))
  all_goals rfl
theorem iseal_o (o : Bool) (bs : List Int) (hy : By bs) (hl : bs.length ≤ 900000) : CT Try.prog 30 [.c (.g 0 0 bs.length bs.length 1)] (upd EW.emp (WB o bs)) 1 2 (.c (.g 1 0 (sealL bs).length (sealL bs).length 1)) (upd (upd EW.emp (WB o bs)) [(.l 1, .l true), (.b 1, .b (.w true (nums .u8 (sealL bs))))]) := by
  have hS := isum_o o bs hy (by omega)
  have hC := clone_ct o bs (by omega)
  have hs := sumN_lt bs
  have hlen : (sealL bs).length = bs.length + 4 := by simp [sealL]
  have e : nums .u8 (sealL bs) = nums .u8 bs ++ [.int .u8 ((sumN bs % 256 : Nat) : Int)] ++ [.int .u8 ((sumN bs / 256 % 256 : Nat) : Int)] ++ [.int .u8 ((sumN bs / 65536 % 256 : Nat) : Int)] ++ [.int .u8 ((sumN bs / 16777216 : Nat) : Int)] := by simp [nums, sealL]
  rw [hlen, e]
  generalize sumN bs = s at *
  have d0 : Is ((s : Int).fdiv 1) (s : Int) := ⟨by rw [Int.fdiv_eq_ediv_of_nonneg _ (by omega)]; omega⟩
  have d1 : Is ((s : Int).fdiv 256) ((s / 256 : Nat) : Int) := ⟨by rw [Int.fdiv_eq_ediv_of_nonneg _ (by omega)]; omega⟩
  have d2 : Is ((s : Int).fdiv 65536) ((s / 65536 : Nat) : Int) := ⟨by rw [Int.fdiv_eq_ediv_of_nonneg _ (by omega)]; omega⟩
  have d3 : Is ((s : Int).fdiv 16777216) ((s / 16777216 : Nat) : Int) := ⟨by rw [Int.fdiv_eq_ediv_of_nonneg _ (by omega)]; omega⟩
  have s0 : Sh .u32 0 1 := ⟨by decide⟩
  have s1 : Sh .u32 8 256 := ⟨by decide⟩
  have s2 : Sh .u32 16 65536 := ⟨by decide⟩
  have s3 : Sh .u32 24 16777216 := ⟨by decide⟩
  have c0 : Wr .u8 (s : Int) ((s % 256 : Nat) : Int) := ⟨by rw [IntKind.wrap_u8]; omega⟩
  have c1 : Wr .u8 ((s / 256 : Nat) : Int) ((s / 256 % 256 : Nat) : Int) := ⟨by rw [IntKind.wrap_u8]; omega⟩
  have c2 : Wr .u8 ((s / 65536 : Nat) : Int) ((s / 65536 % 256 : Nat) : Int) := ⟨by rw [IntKind.wrap_u8]; omega⟩
  have c3 : Wr .u8 ((s / 16777216 : Nat) : Int) ((s / 16777216 : Nat) : Int) := ⟨by rw [IntKind.wrap_u8]; omega⟩
  clear e hlen hy
  refine EW.ctEnter EW.sup1 Try.func30 rfl Try.ntmps30 rfl EW.nlP ?_; intro w0 tch ini R hR
  all_goals try (refine EW.nm ?_)
  all_goals try (refine EW.eReg (id := 0) ?_; refine EW.eAssign ?_; refine EW.eEnd ?_; (try refine EW.nm ?_))
  all_goals try (refine EW.eReg (id := 1) ?_; refine EW.eMove ?_; refine EW.eCallN [0] Try.call54 (hC) ?_; refine EW.eAssign ?_; refine EW.eEnd ?_; (try refine EW.nm ?_))
  all_goals try (refine EW.eReg (id := 2) ?_; refine EW.eMove ?_; refine EW.eCallN [0] Try.call55 (hS) ?_; refine EW.eAssign ?_; refine EW.eAssign ?_; refine EW.eEnd ?_; (try refine EW.nm ?_))
  all_goals try (refine EW.eUnroll 5 ?_)
  all_goals try (refine EW.nm ?_)
  iterate 5 (
    all_goals try (refine EW.eReg (id := 3) ?_; refine EW.eMove ?_; refine EW.eLss ?_; refine EW.eEnd ?_; (try refine EW.nm ?_))
    all_goals try (first | refine EW.eYes (x := .tmp 11) ?_ | refine EW.eNo (x := .tmp 11) ?_ | (refine EW.eCond (x := .tmp 11) ?_ ?_ <;> (intro hb hb'; (try dsimp only at hb'); (try (exfalso; first | omega | with_reducible exact absurd rfl hb')))))
    all_goals try (refine EW.nm ?_)
    all_goals try (refine EW.eReg (id := 5) ?_; refine EW.eMove ?_; refine EW.eMove ?_; refine EW.eMove ?_; refine EW.eMul ?_; (first | first | refine EW.eShr ?_ (hm := s0) (hr' := d0) | refine EW.eShr ?_ (hm := s1) (hr' := d1) | refine EW.eShr ?_ (hm := s2) (hr' := d2) | refine EW.eShr ?_ (hm := s3) (hr' := d3)); (first | first | refine EW.eConv ?_ (hr' := c0) | refine EW.eConv ?_ (hr' := c1) | refine EW.eConv ?_ (hr' := c2) | refine EW.eConv ?_ (hr' := c3)); refine EW.eBuildSlice (k := 1) ?_; (first | refine EW.eAppGW (z := 1) ?_ | refine EW.eAppG (z := 1) ?_ | refine EW.eAppZW (z := 1) ?_ | refine EW.eAppZ (z := 1) ?_ | refine EW.eAppSW (z := 1) ?_ | refine EW.eAppS (z := 1) ?_ | refine EW.eAppNW (z := 1) ?_ | refine EW.eAppN (z := 1) ?_); refine EW.eAssign ?_; refine EW.eEnd ?_; (try refine EW.nm ?_))
    all_goals try (refine EW.eReg (id := 4) ?_; refine EW.eMove ?_; refine EW.eAdd ?_; refine EW.eAssign ?_; refine EW.eEnd ?_; (try refine EW.nm ?_)))
  all_goals try (refine EW.eReg (id := 6) ?_; refine EW.eMove ?_; refine EW.eAssign ?_; refine EW.eEnd ?_; (try refine EW.nm ?_))
  all_goals try (with_reducible refine EW.parkK ?_)
  all_goals try (refine EW.Park.mk ?_)
  all_goals (refine EW.eLeaveN [100] hR EW.orP (by rfl) (by rfl) ?_ ?_ rfl rfl EW.nlP rfl rfl; rotate_left 1; (· ((repeat (first | exact EW.atE.nil | refine EW.atE.lt rfl ?_ | refine EW.atE.lf ?_ | refine EW.atE.b rfl EW.SameB.refl ?_ | (refine EW.atE.b rfl ?_ ?_; rotate_left 1))))))
  all_goals rfl
theorem nums_part {k : IntKind} {b : List Int} {n : Nat} (h : n ≤ b.length) : EW.Sub (nums k b) (nums k (b.take n)) 0 := by
  have := EW.Sub.of (L := nums k b) (o := 0) (p := n) (by simp [nums]; omega)
  rwa [List.drop_zero, show (nums k b).take n = nums k (b.take n) by simp [nums]] at this
/-- What Open answers. -/
abbrev OpenR (f : FuncId) (o : Bool) (bs : List Int) (r : List Int) (e : Int) : Prop := CT Try.prog f [.c (.g 0 0 bs.length bs.length 1)] (upd EW.emp (WB o bs)) 1 2 (.t [.inl (.g 1 0 r.length r.length 1), .inl (.v (.int .i64 e))]) (upd (upd EW.emp (WB o bs)) [(.l 1, .l true), (.b 1, .b (.w true (nums .u8 r)))])
theorem take_by {b : List Int} (h : By b) (n : Nat) : By (b.take n) := fun x hx => h x (List.mem_of_mem_take hx)
theorem iopen_no (bs : List Int) (hy : By bs) (hl : bs.length ≤ 900000) (h : ¬ bs = sealL (body bs)) : OpenR 42 false bs [] 40 := by
  rcases Nat.lt_or_ge bs.length 4 with h4 | h4
  · clear h
    refine EW.ctEnter EW.sup1 Try.func42 rfl Try.ntmps42 rfl EW.nlP ?_; intro w0 tch ini R hR
    all_goals try (refine EW.nm ?_)
    all_goals try (refine EW.eReg (id := 0) ?_; refine EW.eAssign ?_; refine EW.eAssign ?_; refine EW.eEnd ?_; (try refine EW.nm ?_))
    all_goals try (refine EW.eReg (id := 1) ?_; refine EW.eMove ?_; (first | refine EW.eLenS ?_ | refine EW.eLenG ?_ | refine EW.eLenN ?_); refine EW.eSub ?_; refine EW.eAssign ?_; refine EW.eEnd ?_; (try refine EW.nm ?_))
    all_goals try (refine EW.eReg (id := 2) ?_; refine EW.eMove ?_; refine EW.eLss ?_; refine EW.eMove ?_)
    all_goals try (refine EW.eGuard (j := 2) (o := ⟨some 11, _, _, _, _, _⟩) ?_ ?_ <;> (intro hb hb'; (try dsimp only at hb'); (try (exfalso; first | omega | with_reducible exact absurd rfl hb'))))
    all_goals try ((first | refine EW.eSkipF (j := 2) ?_ | refine EW.eSkipU (j := 2) ?_ | refine EW.eMove ?_); (first | refine EW.eSkipF (j := 2) ?_ | refine EW.eSkipU (j := 2) ?_ | refine EW.eMove ?_); (first | refine EW.eSkipF (j := 2) ?_ | refine EW.eSkipU (j := 2) ?_ | refine EW.eSliceS (z := 1) ?_ | refine EW.eSliceG (z := 1) ?_ | refine EW.eSliceN (z := 1) ?_); (first | refine EW.eSkipF (j := 2) ?_ | refine EW.eSkipU (j := 2) ?_ | fail "no contract of mullion/crc.Seal"); (first | refine EW.eSkipF (j := 2) ?_ | refine EW.eSkipU (j := 2) ?_ | refine EW.eMove ?_); (first | refine EW.eSkipF (j := 2) ?_ | refine EW.eSkipU (j := 2) ?_ | fail "no contract of slices.Equal[[]byte,byte]"); (first | refine EW.eSkipF (j := 2) ?_ | refine EW.eSkipU (j := 2) ?_ | refine EW.eNot ?_); (first | refine EW.ePickT ?_ | refine EW.ePickF ?_); refine EW.eEnd ?_; (try refine EW.nm ?_))
    all_goals try (first | refine EW.eYes (x := .tmp 18) ?_ | refine EW.eNo (x := .tmp 18) ?_ | (refine EW.eCond (x := .tmp 18) ?_ ?_ <;> (intro hb hb'; (try dsimp only at hb'); (try (exfalso; first | omega | with_reducible exact absurd rfl hb')))))
    all_goals try (refine EW.nm ?_)
    all_goals try (refine EW.eReg (id := 3) ?_; refine EW.eAssign ?_; refine EW.eAssign ?_; refine EW.eEnd ?_; (try refine EW.nm ?_))
    all_goals try (refine EW.eNilGK 2 5 1 ?_)
    all_goals try (with_reducible refine EW.parkK ?_)
    all_goals try (refine EW.eReg (id := 4) ?_; refine EW.eMove ?_; refine EW.eMove ?_; (first | refine EW.eSliceS (z := 1) ?_ | refine EW.eSliceG (z := 1) ?_ | refine EW.eSliceN (z := 1) ?_); fail "no contract of slices.Clone[[]byte,byte]"; refine EW.eAssign ?_; refine EW.eAssign ?_; refine EW.eEnd ?_; (try refine EW.nm ?_))
    all_goals try (with_reducible refine EW.parkK ?_)
    all_goals try (refine EW.Park.mk ?_)
    all_goals (refine EW.eLeaveN [5] hR EW.orP (by rfl) (by rfl) ?_ ?_ rfl rfl EW.nlP rfl rfl; rotate_left 1; (· ((repeat (first | exact EW.atE.nil | refine EW.atE.lt rfl ?_ | refine EW.atE.lf ?_ | refine EW.atE.b rfl EW.SameB.refl ?_ | (refine EW.atE.b rfl ?_ ?_; rotate_left 1))))))
    all_goals rfl
  · have hS := iseal_o false (body bs) (take_by hy _) (by rw [List.length_take]; omega)
    have hE := bequal true false (sealL (body bs)) bs (by rw [seal_len, List.length_take]; omega) (by omega)
    rw [decide_eq_false fun e => h e.symm] at hE
    have hsb : EW.Sub (nums .u8 bs) (nums .u8 (body bs)) 0 := nums_part (k := .u8) (b := bs) (n := bs.length - 4) (by omega)
    have hlb : (body bs).length = bs.length - 4 := by rw [List.length_take]; omega
    generalize body bs = q at *
    clear h
    refine EW.ctEnter EW.sup1 Try.func42 rfl Try.ntmps42 rfl EW.nlP ?_; intro w0 tch ini R hR
    all_goals try (refine EW.nm ?_)
    all_goals try (refine EW.eReg (id := 0) ?_; refine EW.eAssign ?_; refine EW.eAssign ?_; refine EW.eEnd ?_; (try refine EW.nm ?_))
    all_goals try (refine EW.eReg (id := 1) ?_; refine EW.eMove ?_; (first | refine EW.eLenS ?_ | refine EW.eLenG ?_ | refine EW.eLenN ?_); refine EW.eSub ?_; refine EW.eAssign ?_; refine EW.eEnd ?_; (try refine EW.nm ?_))
    all_goals try (refine EW.eReg (id := 2) ?_; refine EW.eMove ?_; refine EW.eLss ?_; refine EW.eMove ?_)
    all_goals try (refine EW.eGuard (j := 2) (o := ⟨some 11, _, _, _, _, _⟩) ?_ ?_ <;> (intro hb hb'; (try dsimp only at hb'); (try (exfalso; first | omega | with_reducible exact absurd rfl hb'))))
    all_goals try ((first | refine EW.eSkipF (j := 2) ?_ | refine EW.eSkipU (j := 2) ?_ | refine EW.eMove ?_); (first | refine EW.eSkipF (j := 2) ?_ | refine EW.eSkipU (j := 2) ?_ | refine EW.eMove ?_); (first | refine EW.eSkipF (j := 2) ?_ | refine EW.eSkipU (j := 2) ?_ | refine EW.eSliceSub 5 (len' := q.length) ?_ hsb (e1 := ⟨by omega⟩) (e2 := ⟨by omega⟩)); (first | refine EW.eSkipF (j := 2) ?_ | refine EW.eSkipU (j := 2) ?_ | refine EW.eCallN [5] Try.call30 (hS) ?_); (first | refine EW.eSkipF (j := 2) ?_ | refine EW.eSkipU (j := 2) ?_ | refine EW.eMove ?_); (first | refine EW.eSkipF (j := 2) ?_ | refine EW.eSkipU (j := 2) ?_ | refine EW.eCallN [10, 0] Try.call69 (hE) ?_); (first | refine EW.eSkipF (j := 2) ?_ | refine EW.eSkipU (j := 2) ?_ | refine EW.eNot ?_); (first | refine EW.ePickT ?_ | refine EW.ePickF ?_); refine EW.eEnd ?_; (try refine EW.nm ?_))
    all_goals try (first | refine EW.eYes (x := .tmp 18) ?_ | refine EW.eNo (x := .tmp 18) ?_ | (refine EW.eCond (x := .tmp 18) ?_ ?_ <;> (intro hb hb'; (try dsimp only at hb'); (try (exfalso; first | omega | with_reducible exact absurd rfl hb')))))
    all_goals try (refine EW.nm ?_)
    all_goals try (refine EW.eReg (id := 3) ?_; refine EW.eAssign ?_; refine EW.eAssign ?_; refine EW.eEnd ?_; (try refine EW.nm ?_))
    all_goals try (refine EW.eNilGK 2 6 1 ?_)
    all_goals try (with_reducible refine EW.parkK ?_)
    all_goals try (refine EW.eReg (id := 4) ?_; refine EW.eMove ?_; refine EW.eMove ?_; (first | refine EW.eSliceS (z := 1) ?_ | refine EW.eSliceG (z := 1) ?_ | refine EW.eSliceN (z := 1) ?_); fail "no contract of slices.Clone[[]byte,byte]"; refine EW.eAssign ?_; refine EW.eAssign ?_; refine EW.eEnd ?_; (try refine EW.nm ?_))
    all_goals try (with_reducible refine EW.parkK ?_)
    all_goals try (refine EW.Park.mk ?_)
    all_goals (refine EW.eLeaveN [6] hR EW.orP (by rfl) (by rfl) ?_ ?_ rfl rfl EW.nlP rfl rfl; rotate_left 1; (· ((repeat (first | exact EW.atE.nil | refine EW.atE.lt rfl ?_ | refine EW.atE.lf ?_ | refine EW.atE.b rfl EW.SameB.refl ?_ | (refine EW.atE.b rfl ?_ ?_; rotate_left 1))))))
    all_goals rfl
theorem iopen_y (q : List Int) (hy : By q) (hl : q.length ≤ 800000) : OpenR 42 false (sealL q) q 0 := by
  have hS := iseal_o false q hy (by omega)
  have hE := bequal true false (sealL q) (sealL q) (by rw [seal_len]; omega) (by rw [seal_len]; omega)
  rw [decide_eq_true rfl] at hE
  have hsb := nums_part (k := .u8) (b := sealL q) (n := (sealL q).length - 4) (by omega)
  rw [show (sealL q).take ((sealL q).length - 4) = q from body_seal q] at hsb
  have hlb := seal_len q
  have hC := clone_ct false q (by omega)
  generalize sealL q = bs at *
  refine EW.ctEnter EW.sup1 Try.func42 rfl Try.ntmps42 rfl EW.nlP ?_; intro w0 tch ini R hR
  all_goals try (refine EW.nm ?_)
  all_goals try (refine EW.eReg (id := 0) ?_; refine EW.eAssign ?_; refine EW.eAssign ?_; refine EW.eEnd ?_; (try refine EW.nm ?_))
  all_goals try (refine EW.eReg (id := 1) ?_; refine EW.eMove ?_; (first | refine EW.eLenS ?_ | refine EW.eLenG ?_ | refine EW.eLenN ?_); refine EW.eSub ?_; refine EW.eAssign ?_; refine EW.eEnd ?_; (try refine EW.nm ?_))
  all_goals try (refine EW.eReg (id := 2) ?_; refine EW.eMove ?_; refine EW.eLss ?_; refine EW.eMove ?_)
  all_goals try (refine EW.eGuard (j := 2) (o := ⟨some 11, _, _, _, _, _⟩) ?_ ?_ <;> (intro hb hb'; (try dsimp only at hb'); (try (exfalso; first | omega | with_reducible exact absurd rfl hb'))))
  all_goals try ((first | refine EW.eSkipF (j := 2) ?_ | refine EW.eSkipU (j := 2) ?_ | refine EW.eMove ?_); (first | refine EW.eSkipF (j := 2) ?_ | refine EW.eSkipU (j := 2) ?_ | refine EW.eMove ?_); (first | refine EW.eSkipF (j := 2) ?_ | refine EW.eSkipU (j := 2) ?_ | refine EW.eSliceSub 5 (len' := q.length) ?_ hsb (e1 := ⟨by omega⟩) (e2 := ⟨by omega⟩)); (first | refine EW.eSkipF (j := 2) ?_ | refine EW.eSkipU (j := 2) ?_ | refine EW.eCallN [5] Try.call30 (hS) ?_); (first | refine EW.eSkipF (j := 2) ?_ | refine EW.eSkipU (j := 2) ?_ | refine EW.eMove ?_); (first | refine EW.eSkipF (j := 2) ?_ | refine EW.eSkipU (j := 2) ?_ | refine EW.eCallN [10, 0] Try.call69 (hE) ?_); (first | refine EW.eSkipF (j := 2) ?_ | refine EW.eSkipU (j := 2) ?_ | refine EW.eNot ?_); (first | refine EW.ePickT ?_ | refine EW.ePickF ?_); refine EW.eEnd ?_; (try refine EW.nm ?_))
  all_goals try (first | refine EW.eYes (x := .tmp 18) ?_ | refine EW.eNo (x := .tmp 18) ?_ | (refine EW.eCond (x := .tmp 18) ?_ ?_ <;> (intro hb hb'; (try dsimp only at hb'); (try (exfalso; first | omega | with_reducible exact absurd rfl hb')))))
  all_goals try (refine EW.nm ?_)
  all_goals try (refine EW.eReg (id := 3) ?_; refine EW.eAssign ?_; refine EW.eAssign ?_; refine EW.eEnd ?_; (try refine EW.nm ?_))
  all_goals try (with_reducible refine EW.parkK ?_)
  all_goals try (refine EW.eReg (id := 4) ?_; refine EW.eMove ?_; refine EW.eMove ?_; refine EW.eSliceSub 6 (len' := q.length) ?_ hsb (e1 := ⟨by omega⟩) (e2 := ⟨by omega⟩); refine EW.eCallN [6] Try.call54 (hC) ?_; refine EW.eAssign ?_; refine EW.eAssign ?_; refine EW.eEnd ?_; (try refine EW.nm ?_))
  all_goals try (with_reducible refine EW.parkK ?_)
  all_goals try (refine EW.Park.mk ?_)
  all_goals (refine EW.eLeaveN [30] hR EW.orP (by rfl) (by rfl) ?_ ?_ rfl rfl EW.nlP rfl rfl; rotate_left 1; (· ((repeat (first | exact EW.atE.nil | refine EW.atE.lt rfl ?_ | refine EW.atE.lf ?_ | refine EW.atE.b rfl EW.SameB.refl ?_ | (refine EW.atE.b rfl ?_ ?_; rotate_left 1))))))
  all_goals rfl
end Go.Proofs.Ytnmkpekfkfckoaa
