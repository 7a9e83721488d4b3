/- Sums of bytes, Seal; the document's. -/
import Derived.Test.YtnmkpekfkfckoaaHPkA
import Derived.Test.YtnmkpekfkfckoaaHPkC
namespace Go.Proofs.Ytnmkpekfkfckoaa
set_option linter.unusedSimpArgs false
set_option linter.unusedVariables false
open Go.RowKit EV
open SX (Wr Tv Qu Rm Sh Is conjP eqs_iff eqs_false)
open EW (PlL PlT PlV PlVs LfV Mm Bt Opn GV YT lpOf nums)
set_option maxRecDepth 20000
/-- The sum of bytes. -/
def sumN (bs : List Int) : Nat := 4294967295 - crcN 4294967295 bs
theorem sumN_lt (bs : List Int) : sumN bs < 4294967296 := by unfold sumN; omega
/-- What is put behind them. -/
abbrev sealB (s : Nat) : List Int := [((s % 256 : Nat) : Int), ((s / 256 % 256 : Nat) : Int), ((s / 65536 % 256 : Nat) : Int), ((s / 16777216 : Nat) : Int)]
def sealL (bs : List Int) : List Int := bs ++ sealB (sumN bs)
theorem isum (bs : List Int) (hy : By bs) (hl : bs.length ≤ 1000000) : CT Try.prog 55 [.c (.g 0 0 bs.length bs.length 1)] (upd EW.emp (WB true bs)) 1 1 (.c (.v (.int .u32 (sumN bs : Int)))) (upd (upd EW.emp (WB true bs)) []) := by
  have hM := more_g 0 bs 0 bs.length bs.length (by omega) hl
  rw [List.drop_zero, List.take_length] at hM
  have e0 : invV 0 = ((4294967295 : Nat) : Int) := invV_nat (n := 0) (by omega)
  have e1 := crcV_nat bs (n := 4294967295) (by omega) hy
  rw [e0, e1, invV_nat (crcN_lt bs (by omega))] at hM
  unfold sumN
  generalize 4294967295 - crcN 4294967295 bs = s at *
  refine EW.ctEnter EW.sup1 Try.func55 rfl Try.ntmps55 rfl EW.nlP ?_; intro w0 tch ini R hR
  all_goals try (refine EW.nm ?_)
  all_goals try (refine EW.eReg (id := 0) ?_; refine EW.eAssign ?_; refine EW.eEnd ?_; (try refine EW.nm ?_))
  all_goals try (refine EW.eReg (id := 1) ?_; refine EW.eMove ?_; refine EW.eCallN [0] Try.call83 (hM) ?_; refine EW.eAssign ?_; refine EW.eEnd ?_; (try refine EW.nm ?_))
  all_goals try (with_reducible refine EW.parkK ?_)
  all_goals try (refine EW.Park.mk ?_)
  all_goals (refine EW.eLeaveN [] hR EW.orP (by rfl) (by rfl) ?_ ?_ rfl rfl EW.nlP rfl rfl; rotate_left 1; (· ((repeat (first | exact EW.atE.nil | refine EW.atE.lt rfl ?_ | refine EW.atE.lf ?_ | refine EW.atE.b rfl EW.SameB.refl ?_ | (refine EW.atE.b rfl ?_ ?_; rotate_left 1))))))
  all_goals rfl
theorem iseal (bs : List Int) (hy : By bs) (hl : bs.length ≤ 900000) : CT Try.prog 30 [.c (.g 0 0 bs.length bs.length 1)] (upd EW.emp (WB true bs)) 1 2 (.c (.g 1 0 (sealL bs).length (sealL bs).length 1)) (upd (upd EW.emp (WB true bs)) [(.l 1, .l true), (.b 1, .b (.w true (nums .u8 (sealL bs))))]) := by
  have hS := isum bs hy (by omega)
  have hC := clone_ct true bs (by omega)
  have hs := sumN_lt bs
  have hlen : (sealL bs).length = bs.length + 4 := by simp [sealL]
  have e : nums .u8 (sealL bs) = nums .u8 bs ++ [.int .u8 ((sumN bs % 256 : Nat) : Int)] ++ [.int .u8 ((sumN bs / 256 % 256 : Nat) : Int)] ++ [.int .u8 ((sumN bs / 65536 % 256 : Nat) : Int)] ++ [.int .u8 ((sumN bs / 16777216 : Nat) : Int)] := by simp [nums, sealL]
  rw [hlen, e]
  generalize sumN bs = s at *
  have d0 : Is ((s : Int).fdiv 1) (s : Int) := ⟨by rw [Int.fdiv_eq_ediv_of_nonneg _ (by omega)]; omega⟩
  have d1 : Is ((s : Int).fdiv 256) ((s / 256 : Nat) : Int) := ⟨by rw [Int.fdiv_eq_ediv_of_nonneg _ (by omega)]; omega⟩
  have d2 : Is ((s : Int).fdiv 65536) ((s / 65536 : Nat) : Int) := ⟨by rw [Int.fdiv_eq_ediv_of_nonneg _ (by omega)]; omega⟩
  have d3 : Is ((s : Int).fdiv 16777216) ((s / 16777216 : Nat) : Int) := ⟨by rw [Int.fdiv_eq_ediv_of_nonneg _ (by omega)]; omega⟩
  have s0 : Sh .u32 0 1 := ⟨by decide⟩
  have s1 : Sh .u32 8 256 := ⟨by decide⟩
  have s2 : Sh .u32 16 65536 := ⟨by decide⟩
  have s3 : Sh .u32 24 16777216 := ⟨by decide⟩
  have c0 : Wr .u8 (s : Int) ((s % 256 : Nat) : Int) := ⟨by rw [IntKind.wrap_u8]; omega⟩
  have c1 : Wr .u8 ((s / 256 : Nat) : Int) ((s / 256 % 256 : Nat) : Int) := ⟨by rw [IntKind.wrap_u8]; omega⟩
  have c2 : Wr .u8 ((s / 65536 : Nat) : Int) ((s / 65536 % 256 : Nat) : Int) := ⟨by rw [IntKind.wrap_u8]; omega⟩
  have c3 : Wr .u8 ((s / 16777216 : Nat) : Int) ((s / 16777216 : Nat) : Int) := ⟨by rw [IntKind.wrap_u8]; omega⟩
  clear e hlen hy
  refine EW.ctEnter EW.sup1 Try.func30 rfl Try.ntmps30 rfl EW.nlP ?_; intro w0 tch ini R hR
  all_goals try (refine EW.nm ?_)
  all_goals try (refine EW.eReg (id := 0) ?_; refine EW.eAssign ?_; refine EW.eEnd ?_; (try refine EW.nm ?_))
  all_goals try (refine EW.eReg (id := 1) ?_; refine EW.eMove ?_; refine EW.eCallN [0] Try.call54 (hC) ?_; refine EW.eAssign ?_; refine EW.eEnd ?_; (try refine EW.nm ?_))
  all_goals try (refine EW.eReg (id := 2) ?_; refine EW.eMove ?_; refine EW.eCallN [0] Try.call55 (hS) ?_; refine EW.eAssign ?_; refine EW.eAssign ?_; refine EW.eEnd ?_; (try refine EW.nm ?_))
  all_goals try (refine EW.eUnroll 5 ?_)
  all_goals try (refine EW.nm ?_)
  iterate 5 (
    all_goals try (refine EW.eReg (id := 3) ?_; refine EW.eMove ?_; refine EW.eLss ?_; refine EW.eEnd ?_; (try refine EW.nm ?_))
    all_goals try (first | refine EW.eYes (x := .tmp 11) ?_ | refine EW.eNo (x := .tmp 11) ?_ | (refine EW.eCond (x := .tmp 11) ?_ ?_ <;> (intro hb hb'; (try dsimp only at hb'); (try (exfalso; first | omega | with_reducible exact absurd rfl hb')))))
    all_goals try (refine EW.nm ?_)
    all_goals try (refine EW.eReg (id := 5) ?_; refine EW.eMove ?_; refine EW.eMove ?_; refine EW.eMove ?_; refine EW.eMul ?_; (first | first | refine EW.eShr ?_ (hm := s0) (hr' := d0) | refine EW.eShr ?_ (hm := s1) (hr' := d1) | refine EW.eShr ?_ (hm := s2) (hr' := d2) | refine EW.eShr ?_ (hm := s3) (hr' := d3)); (first | first | refine EW.eConv ?_ (hr' := c0) | refine EW.eConv ?_ (hr' := c1) | refine EW.eConv ?_ (hr' := c2) | refine EW.eConv ?_ (hr' := c3)); refine EW.eBuildSlice (k := 1) ?_; (first | refine EW.eAppGW (z := 1) ?_ | refine EW.eAppG (z := 1) ?_ | refine EW.eAppZW (z := 1) ?_ | refine EW.eAppZ (z := 1) ?_ | refine EW.eAppSW (z := 1) ?_ | refine EW.eAppS (z := 1) ?_ | refine EW.eAppNW (z := 1) ?_ | refine EW.eAppN (z := 1) ?_); refine EW.eAssign ?_; refine EW.eEnd ?_; (try refine EW.nm ?_))
    all_goals try (refine EW.eReg (id := 4) ?_; refine EW.eMove ?_; refine EW.eAdd ?_; refine EW.eAssign ?_; refine EW.eEnd ?_; (try refine EW.nm ?_)))
  all_goals try (refine EW.eReg (id := 6) ?_; refine EW.eMove ?_; refine EW.eAssign ?_; refine EW.eEnd ?_; (try refine EW.nm ?_))
  all_goals try (with_reducible refine EW.parkK ?_)
  all_goals try (refine EW.Park.mk ?_)
  all_goals (refine EW.eLeaveN [100] hR EW.orP (by rfl) (by rfl) ?_ ?_ rfl rfl EW.nlP rfl rfl; rotate_left 1; (· ((repeat (first | exact EW.atE.nil | refine EW.atE.lt rfl ?_ | refine EW.atE.lf ?_ | refine EW.atE.b rfl EW.SameB.refl ?_ | (refine EW.atE.b rfl ?_ ?_; rotate_left 1))))))
  all_goals rfl
end Go.Proofs.Ytnmkpekfkfckoaa
