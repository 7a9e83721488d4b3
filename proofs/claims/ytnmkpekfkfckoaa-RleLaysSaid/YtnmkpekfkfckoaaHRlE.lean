/- The document's sums of bytes, and Seal. -/
import Derived.Test.YtnmkpekfkfckoaaHPkD
namespace Go.Proofs.Ytnmkpekfkfckoaa
set_option linter.unusedSimpArgs false
set_option linter.unusedVariables false
open Go.RowKit EV
open SX (Wr Tv Qu Rm Sh Is conjP eqs_iff eqs_false)
open EW (PlL PlT PlV PlVs LfV Mm Bt Opn GV YT lpOf nums)
set_option maxRecDepth 20000
theorem crcN_next {bs : List Int} {i n c : Nat} (h : i < bs.length) (hn : n = crcN 4294967295 (bs.take i)) (hc : bs.getD i 0 = (c : Int)) : bitN 8 n c = crcN 4294967295 (bs.take (i + 1)) := by
  rw [List.take_add_one, List.getElem?_eq_getElem h, crcN, List.foldl_append, hn]
  rw [List.getD_eq_getElem?_getD, List.getElem?_eq_getElem h] at hc
  simp only [Option.getD_some] at hc
  simp only [Option.toList, List.foldl_cons, List.foldl_nil, hc, Int.toNat_natCast]
  rfl
theorem by_nat {l : List Int} (hb : By l) {i : Nat} (h : i < l.length) : ∃ c : Nat, l.getD i 0 = (c : Int) ∧ c < 256 := by
  have := hb (l.getD i 0) (by rw [List.getD_eq_getElem?_getD, List.getElem?_eq_getElem h]; exact List.getElem_mem h)
  exact ⟨(l.getD i 0).toNat, by omega, by omega⟩
theorem bit_step {k n c m : Nat} (hk : k < 8) (h : bitN (8 - k) n c = m) : bitN (8 - (k + 1)) (shN (n ^^^ c % 2)) (c / 2) = m := by
  rw [show 8 - k = (8 - (k + 1)) + 1 by omega] at h
  exact h
set_option maxHeartbeats 2000000 in
theorem dmore (o : Bool) (bs : List Int) (hy : By bs) (hl : bs.length ≤ 1000000) : CT Try.prog 87 [.c (.v (.int .u32 0)), .c (.g 0 0 bs.length bs.length 1)] (upd EW.emp (WB o bs)) 1 1 (.c (.v (.int .u32 (sumN bs : Int)))) (upd (upd EW.emp (WB o bs)) []) := by
  have hsum : (sumN bs : Int) = 4294967295 - (crcN 4294967295 bs : Int) := by
    have := crcN_lt bs (n := 4294967295) (by omega)
    unfold sumN; omega
  rw [hsum]
  clear hsum
  refine EW.ctEnter EW.sup1 Try.func87 rfl Try.ntmps87 rfl EW.nlP ?_; intro w0 tch ini R hR
  all_goals try (refine EW.nm ?_)
  all_goals try (refine EW.eReg (id := 0) ?_; refine EW.eAssign ?_; refine EW.eEnd ?_; (try refine EW.nm ?_))
  all_goals try (refine EW.eReg (id := 1) ?_; refine EW.eMove ?_; refine EW.eSub ?_; refine EW.eAssign ?_; refine EW.eEnd ?_; (try refine EW.nm ?_))
  all_goals try (refine EW.eReg (id := 2) ?_; refine EW.eAssign ?_; refine EW.eEnd ?_; (try refine EW.nm ?_))
  all_goals first | (fail_if_success (refine EW.eUnroll 1 ?_)) | (refine EW.eLoopD [5, 6, 7, 8, 11, 12, 13, 14, 15, 16, 17, 18, 19, 20, 21, 22, 23, 24, 25, 26, 27, 28, 29, 30, 31, 32] 9 (fun x : {x : Nat × Nat // x.1 ≤ bs.length ∧ x.2 = crcN 4294967295 (bs.take x.1)} => [(.t 6, .v (.c (.v (.int .i64 x.1.1)))), (.t 5, .v (.c (.v (.int .u32 x.1.2))))]) (fun x => bs.length - x.1.1) (⟨(0, 4294967295), by omega, rfl⟩) (by ((repeat (first | exact EW.subW.nil | refine EW.subW.cons rfl ?_ | refine EW.subW.conv rfl ?_ (by exact EW.kvI (by omega)) | refine EW.subW.conv rfl ?_)); (first | done | fail))) ?_; rintro hcl3 ⟨⟨i, n⟩, hi, hn⟩; (try dsimp only))
  all_goals try (refine EW.nm ?_)
  all_goals try (refine EW.eReg (id := 3) ?_; refine EW.eMove ?_; refine EW.eMove ?_; (first | refine EW.eLenS ?_ | refine EW.eLenG ?_ | refine EW.eLenN ?_); refine EW.eLss ?_; refine EW.eEnd ?_; (try refine EW.nm ?_))
  all_goals try (first | refine EW.eYes (x := .tmp 14) ?_ | refine EW.eNo (x := .tmp 14) ?_ | (refine EW.eCond (x := .tmp 14) ?_ ?_ <;> (intro hb hb'; (try dsimp only at hb'); (try (exfalso; first | omega | with_reducible exact absurd rfl hb')))))
  all_goals try (refine EW.nm ?_)
  all_goals (try ((try dsimp only at hi hn); have hil : i < bs.length := (by omega); obtain ⟨c, hc, hc2⟩ := by_nat hy hil; have hnl : n < 4294967296 := (hn ▸ crcN_lt _ (by omega))))
  all_goals try (refine EW.eReg (id := 5) ?_; refine EW.eMove ?_; refine EW.eMove ?_; (first | refine EW.eIndexAddrS (z := 1) ?_ | refine EW.eIndexAddrG (z := 1) ?_); refine EW.eLoad1 ?_; refine EW.eConv ?_; refine EW.eAssign ?_; refine EW.eEnd ?_; (try refine EW.nm ?_))
  all_goals try (refine EW.eReg (id := 6) ?_; refine EW.eAssign ?_; refine EW.eEnd ?_; (try refine EW.nm ?_))
  all_goals first | (fail_if_success (refine EW.eUnroll 1 ?_)) | (refine EW.eLoopD [5, 7, 8, 22, 23, 24, 25, 26, 27, 28, 29, 30, 31, 32] 9 (fun x : {x : Nat × Nat × Nat // x.1 ≤ 8 ∧ x.2.1 < 4294967296 ∧ x.2.2 < 256 ∧ bitN (8 - x.1) x.2.1 x.2.2 = bitN 8 n c} => [(.t 8, .v (.c (.v (.int .i64 x.1.1)))), (.t 5, .v (.c (.v (.int .u32 x.1.2.1)))), (.t 7, .v (.c (.v (.int .u32 x.1.2.2))))]) (fun x => 8 - x.1.1) (⟨(0, n, c), by omega, hnl, hc2, rfl⟩) (by ((repeat (first | exact EW.subW.nil | refine EW.subW.cons rfl ?_ | refine EW.subW.conv rfl ?_ (by exact EW.kvI (by omega)) | refine EW.subW.conv rfl ?_)); (first | done | fail))) ?_; rintro hcl7 ⟨⟨k, n2, c2⟩, hk, hn2, hc3, hbt⟩; (try dsimp only))
  all_goals try (refine EW.nm ?_)
  all_goals try (refine EW.eReg (id := 7) ?_; refine EW.eMove ?_; refine EW.eLss ?_; refine EW.eEnd ?_; (try refine EW.nm ?_))
  all_goals try (first | refine EW.eYes (x := .tmp 23) ?_ | refine EW.eNo (x := .tmp 23) ?_ | (refine EW.eCond (x := .tmp 23) ?_ ?_ <;> (intro hb hb'; (try dsimp only at hb'); (try (exfalso; first | omega | with_reducible exact absurd rfl hb')))))
  all_goals try (refine EW.nm ?_)
  all_goals (try ((try dsimp only at hk hn2 hc3 hbt); have hk8 : k < 8 := (by omega); have hx := bx_nat (a := n2) (b := c2 % 2) (by omega) (by omega); have hm : Rm (c2 : Int) 2 ((c2 % 2 : Nat) : Int) := rm_nat c2 2; have hq : Qu .u32 (c2 : Int) 2 ((c2 / 2 : Nat) : Int) := qu_nat c2 2 (by omega); have hxl : n2 ^^^ c2 % 2 < 4294967296 := (Nat.xor_lt_two_pow (n := 32) hn2 (by omega)); have hsh := fun u => dshift (n2 ^^^ c2 % 2) u hxl))
  all_goals try (refine EW.eReg (id := 9) ?_; refine EW.eMove ?_; refine EW.eMove ?_; refine EW.eRem ?_ (hr' := hm); refine EW.eXor ?_ (hr' := hx); refine EW.eCall Try.call98 (fun w => hsh w) ?_; refine EW.eAssign ?_; refine EW.eEnd ?_; (try refine EW.nm ?_))
  all_goals try (refine EW.eReg (id := 10) ?_; refine EW.eMove ?_; refine EW.eQuo ?_ (hr' := hq); refine EW.eAssign ?_; refine EW.eEnd ?_; (try refine EW.nm ?_))
  all_goals try (refine EW.eReg (id := 8) ?_; refine EW.eMove ?_; refine EW.eAdd ?_; refine EW.eAssign ?_; refine EW.eEnd ?_; (try refine EW.nm ?_))
  all_goals first | (fail_if_success (with_reducible refine EW.isLater ?_)) | (refine EW.eLaterD (⟨(k + 1, shN (n2 ^^^ c2 % 2), c2 / 2), by dsimp only; omega, shN_lt hxl, by dsimp only; omega, bit_step hk8 hbt⟩) (by dsimp only; omega) (by ((repeat (first | exact EW.subW.nil | refine EW.subW.cons rfl ?_ | refine EW.subW.conv rfl ?_ (by exact EW.kvI (by omega)) | refine EW.subW.conv rfl ?_)); (first | done | fail))) hcl7)
  all_goals try (refine EW.nm ?_)
  all_goals (try ((try dsimp only at hk hn2 hc3 hbt); have hk8 : k = 8 := (by omega); subst hk8; have hfin : n2 = bitN 8 n c := hbt))
  all_goals try (refine EW.eReg (id := 4) ?_; refine EW.eMove ?_; refine EW.eAdd ?_; refine EW.eAssign ?_; refine EW.eEnd ?_; (try refine EW.nm ?_))
  all_goals first | (fail_if_success (with_reducible refine EW.isLater ?_)) | (refine EW.eLaterD (⟨(i + 1, bitN 8 n c), by dsimp only; omega, crcN_next hil hn hc⟩) (by dsimp only; omega) (by ((repeat (first | exact EW.subW.nil | refine EW.subW.cons rfl ?_ | refine EW.subW.conv rfl ?_ (by exact EW.kvI (by omega)) | refine EW.subW.conv rfl ?_)); (first | done | fail))) hcl3)
  all_goals try (refine EW.nm ?_)
  all_goals (try ((try dsimp only at hi hn); have hie : i = bs.length := (by omega); rw [hie, List.take_length] at hn; have hnl : n < 4294967296 := (hn ▸ crcN_lt _ (by omega)); subst hn))
  all_goals try (refine EW.eReg (id := 11) ?_; refine EW.eMove ?_; refine EW.eSub ?_; refine EW.eAssign ?_; refine EW.eEnd ?_; (try refine EW.nm ?_))
  all_goals try (with_reducible refine EW.parkK ?_)
  all_goals try (refine EW.Park.mk ?_)
  all_goals (refine EW.eLeaveN [] hR EW.orP (by rfl) (by rfl) ?_ ?_ rfl rfl EW.nlP rfl rfl; rotate_left 1; (· ((repeat (first | exact EW.atE.nil | refine EW.atE.lt rfl ?_ | refine EW.atE.lf ?_ | refine EW.atE.b rfl EW.SameB.refl ?_ | (refine EW.atE.b rfl ?_ ?_; rotate_left 1))))))
  all_goals rfl
theorem dsum (o : Bool) (bs : List Int) (hy : By bs) (hl : bs.length ≤ 1000000) : CT Try.prog 67 [.c (.g 0 0 bs.length bs.length 1)] (upd EW.emp (WB o bs)) 1 1 (.c (.v (.int .u32 (sumN bs : Int)))) (upd (upd EW.emp (WB o bs)) []) := by
  have hM := dmore o bs hy hl
  refine EW.ctEnter EW.sup1 Try.func67 rfl Try.ntmps67 rfl EW.nlP ?_; intro w0 tch ini R hR
  all_goals try (refine EW.nm ?_)
  all_goals try (refine EW.eReg (id := 0) ?_; refine EW.eAssign ?_; refine EW.eEnd ?_; (try refine EW.nm ?_))
  all_goals try (refine EW.eReg (id := 1) ?_; refine EW.eMove ?_; refine EW.eCallN [0] Try.call87 (hM) ?_; refine EW.eAssign ?_; refine EW.eEnd ?_; (try refine EW.nm ?_))
  all_goals try (with_reducible refine EW.parkK ?_)
  all_goals try (refine EW.Park.mk ?_)
  all_goals (refine EW.eLeaveN [] hR EW.orP (by rfl) (by rfl) ?_ ?_ rfl rfl EW.nlP rfl rfl; rotate_left 1; (· ((repeat (first | exact EW.atE.nil | refine EW.atE.lt rfl ?_ | refine EW.atE.lf ?_ | refine EW.atE.b rfl EW.SameB.refl ?_ | (refine EW.atE.b rfl ?_ ?_; rotate_left 1))))))
  all_goals rfl
theorem dtwinB (o : Bool) (bs : List Int) (hl : bs.length ≤ 1000000) : CT Try.prog 68 [.c (.g 0 0 bs.length bs.length 1)] (upd EW.emp (WB o bs)) 1 2 (.c (.g 1 0 bs.length bs.length 1)) (upd (upd EW.emp (WB o bs)) [(.l 1, .l true), (.b 1, .b (.w true (nums .u8 bs)))]) := by
  refine EW.ctEnter EW.sup1 Try.func68 rfl Try.ntmps68 rfl EW.nlP ?_; intro w0 tch ini R hR
  all_goals try (refine EW.nm ?_)
  all_goals try (refine EW.eReg (id := 0) ?_; refine EW.eAssign ?_; refine EW.eEnd ?_; (try refine EW.nm ?_))
  all_goals try (refine EW.eReg (id := 1) ?_; refine EW.eAssign ?_; refine EW.eEnd ?_; (try refine EW.nm ?_))
  all_goals try (refine EW.eReg (id := 2) ?_; refine EW.eMove ?_; refine EW.eMove ?_; (first | refine EW.eAppGW (z := 1) ?_ | refine EW.eAppG (z := 1) ?_ | refine EW.eAppZW (z := 1) ?_ | refine EW.eAppZ (z := 1) ?_ | refine EW.eAppSW (z := 1) ?_ | refine EW.eAppS (z := 1) ?_ | refine EW.eAppNW (z := 1) ?_ | refine EW.eAppN (z := 1) ?_); refine EW.eAssign ?_; refine EW.eEnd ?_; (try refine EW.nm ?_))
  all_goals try (with_reducible refine EW.parkK ?_)
  all_goals try (refine EW.Park.mk ?_)
  all_goals (refine EW.eLeaveN [10] hR EW.orP (by rfl) (by rfl) ?_ ?_ rfl rfl EW.nlP rfl rfl; rotate_left 1; (· ((repeat (first | exact EW.atE.nil | refine EW.atE.lt rfl ?_ | refine EW.atE.lf ?_ | refine EW.atE.b rfl EW.SameB.refl ?_ | (refine EW.atE.b rfl ?_ ?_; rotate_left 1))))))
  all_goals rfl
theorem dseal (o : Bool) (bs : List Int) (hy : By bs) (hl : bs.length ≤ 900000) : CT Try.prog 41 [.c (.g 0 0 bs.length bs.length 1)] (upd EW.emp (WB o bs)) 1 2 (.c (.g 1 0 (sealL bs).length (sealL bs).length 1)) (upd (upd EW.emp (WB o bs)) [(.l 1, .l true), (.b 1, .b (.w true (nums .u8 (sealL bs))))]) := by
  have hS := dsum o bs hy (by omega)
  have hC := dtwinB o bs (by omega)
  have hs := sumN_lt bs
  have hlen : (sealL bs).length = bs.length + 4 := by simp [sealL]
  have e : nums .u8 (sealL bs) = nums .u8 bs ++ [.int .u8 ((sumN bs % 256 : Nat) : Int), .int .u8 ((sumN bs / 256 % 256 : Nat) : Int), .int .u8 ((sumN bs / 65536 % 256 : Nat) : Int), .int .u8 ((sumN bs / 16777216 : Nat) : Int)] := by simp [nums, sealL]
  rw [hlen, e]
  generalize sumN bs = s at *
  have r0 : Rm (s : Int) 256 ((s % 256 : Nat) : Int) := rm_nat s 256
  have q1 : Qu .u32 (s : Int) 256 ((s / 256 : Nat) : Int) := qu_nat s 256 hs
  have r1 : Rm ((s / 256 : Nat) : Int) 256 ((s / 256 % 256 : Nat) : Int) := rm_nat (s / 256) 256
  have q2 : Qu .u32 (s : Int) 65536 ((s / 65536 : Nat) : Int) := qu_nat s 65536 hs
  have r2 : Rm ((s / 65536 : Nat) : Int) 256 ((s / 65536 % 256 : Nat) : Int) := rm_nat (s / 65536) 256
  have q3 : Qu .u32 (s : Int) 16777216 ((s / 16777216 : Nat) : Int) := qu_nat s 16777216 hs
  clear e hlen hy
  refine EW.ctEnter EW.sup1 Try.func41 rfl Try.ntmps41 rfl EW.nlP ?_; intro w0 tch ini R hR
  all_goals try (refine EW.nm ?_)
  all_goals try (refine EW.eReg (id := 0) ?_; refine EW.eAssign ?_; refine EW.eEnd ?_; (try refine EW.nm ?_))
  all_goals try (refine EW.eReg (id := 1) ?_; refine EW.eMove ?_; refine EW.eCallN [0] Try.call67 (hS) ?_; refine EW.eAssign ?_; refine EW.eEnd ?_; (try refine EW.nm ?_))
  all_goals try (refine EW.eReg (id := 2) ?_; refine EW.eMove ?_; refine EW.eCallN [0] Try.call68 (hC) ?_; refine EW.eAssign ?_; refine EW.eEnd ?_; (try refine EW.nm ?_))
  all_goals try (refine EW.eReg (id := 3) ?_; refine EW.eMove ?_; refine EW.eMove ?_; refine EW.eRem ?_ (hr' := r0); refine EW.eConv ?_; refine EW.eMove ?_; refine EW.eQuo ?_ (hr' := q1); refine EW.eRem ?_ (hr' := r1); refine EW.eConv ?_; refine EW.eMove ?_; refine EW.eQuo ?_ (hr' := q2); refine EW.eRem ?_ (hr' := r2); refine EW.eConv ?_; refine EW.eMove ?_; refine EW.eQuo ?_ (hr' := q3); refine EW.eConv ?_; refine EW.eBuildSlice (k := 1) ?_; (first | refine EW.eAppGW (z := 1) ?_ | refine EW.eAppG (z := 1) ?_ | refine EW.eAppZW (z := 1) ?_ | refine EW.eAppZ (z := 1) ?_ | refine EW.eAppSW (z := 1) ?_ | refine EW.eAppS (z := 1) ?_ | refine EW.eAppNW (z := 1) ?_ | refine EW.eAppN (z := 1) ?_); refine EW.eAssign ?_; refine EW.eEnd ?_; (try refine EW.nm ?_))
  all_goals try (with_reducible refine EW.parkK ?_)
  all_goals try (refine EW.Park.mk ?_)
  all_goals (refine EW.eLeaveN [40] hR EW.orP (by rfl) (by rfl) ?_ ?_ rfl rfl EW.nlP rfl rfl; rotate_left 1; (· ((repeat (first | exact EW.atE.nil | refine EW.atE.lt rfl ?_ | refine EW.atE.lf ?_ | refine EW.atE.b rfl EW.SameB.refl ?_ | (refine EW.atE.b rfl ?_ ?_; rotate_left 1))))))
  all_goals rfl
end Go.Proofs.Ytnmkpekfkfckoaa
