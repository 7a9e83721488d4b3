import Derived.Test.YtnmkpekfkfckoaaHPkB
import Derived.Test.YtnmkpekfkfckoaaHCrL
/- Package pack: the writer's calls. -/
namespace Go.Proofs.Ytnmkpekfkfckoaa
set_option linter.unusedSimpArgs false
set_option linter.unusedVariables false
open Go.RowKit EV
open SX (Wr Tv Qu Rm Sh Is conjP eqs_iff eqs_false)
open EW (PlL PlT PlV PlVs LfV Mm Bt Opn GV YT lpOf nums)
set_option maxRecDepth 20000
noncomputable def WB (o : Bool) (bs : List Int) : Ws := [(.l 0, .l true), (.b 0, .b (.w o (nums .u8 bs)))]
theorem clone_ct (o : Bool) (bs : List Int) (hl : bs.length ≤ 1000000) : CT Try.prog 54 [.c (.g 0 0 bs.length bs.length 1)] (upd EW.emp (WB o bs)) 1 2 (.c (.g 1 0 bs.length bs.length 1)) (upd (upd EW.emp (WB o bs)) [(.l 1, .l true), (.b 1, .b (.w true (nums .u8 bs)))]) := by
  cases bs with
  | nil =>
    refine EW.ctEnter EW.sup1 Try.func54 rfl Try.ntmps54 rfl EW.nlP ?_; intro w0 tch ini R hR
    all_goals try (refine EW.nm ?_)
    all_goals (refine EW.eRaw0 0 (fun ra rk => ?_))
    all_goals try (refine EW.eReg (id := 0) ?_; refine EW.eAssign ?_; refine EW.eEnd ?_; (try refine EW.nm ?_))
    all_goals try (refine EW.eReg (id := 1) ?_; refine EW.eMove ?_; (first | refine EW.eNilEqG ?_ | refine EW.eNilEqV ?_); refine EW.eEnd ?_; (try refine EW.nm ?_))
    all_goals try (first | refine EW.eYes (x := .tmp 4) ?_ | refine EW.eNo (x := .tmp 4) ?_ | (refine EW.eCond (x := .tmp 4) ?_ ?_ <;> (intro hb hb'; (try dsimp only at hb'); (try (exfalso; first | omega | with_reducible exact absurd rfl hb')))))
    all_goals try (refine EW.nm ?_)
    all_goals try (refine EW.eReg (id := 2) ?_; refine EW.eAssign ?_; refine EW.eEnd ?_; (try refine EW.nm ?_))
    all_goals try (refine EW.eNilGK 2 20 1 ?_)
    all_goals try (with_reducible refine EW.parkK ?_)
    all_goals try (refine EW.eReg (id := 3) ?_; refine EW.eBuildSlice (k := 1) ?_; refine EW.eMove ?_; (first | refine EW.eAppGW (z := 1) ?_ | refine EW.eAppG (z := 1) ?_ | refine EW.eAppZW (z := 1) ?_ | refine EW.eAppZ (z := 1) ?_ | refine EW.eAppSW (z := 1) ?_ | refine EW.eAppS (z := 1) ?_ | refine EW.eAppNW (z := 1) ?_ | refine EW.eAppN (z := 1) ?_); refine EW.eAssign ?_; refine EW.eEnd ?_; (try refine EW.nm ?_))
    all_goals try (with_reducible refine EW.parkK ?_)
    all_goals try (refine EW.Park.mk ?_)
    all_goals (refine EW.eLeaveN [20] hR EW.orP (by rfl) (by rfl) ?_ ?_ rfl rfl EW.nlP rfl rfl; rotate_left 1; (· ((repeat (first | exact EW.atE.nil | refine EW.atE.lt rfl ?_ | refine EW.atE.lf ?_ | refine EW.atE.b rfl EW.SameB.refl ?_ | (refine EW.atE.b rfl ?_ ?_; rotate_left 1))))))
    all_goals rfl
  | cons x bs =>
    generalize hL : x :: bs = L at *
    have hp : 0 < L.length := by rw [← hL]; simp
    refine EW.ctEnter EW.sup1 Try.func54 rfl Try.ntmps54 rfl EW.nlP ?_; intro w0 tch ini R hR
    all_goals try (refine EW.nm ?_)
    all_goals try (refine EW.eReg (id := 0) ?_; refine EW.eAssign ?_; refine EW.eEnd ?_; (try refine EW.nm ?_))
    all_goals try (refine EW.eReg (id := 1) ?_; refine EW.eMove ?_; (first | refine EW.eNilEqG ?_ | refine EW.eNilEqV ?_); refine EW.eEnd ?_; (try refine EW.nm ?_))
    all_goals try (first | refine EW.eYes (x := .tmp 4) ?_ | refine EW.eNo (x := .tmp 4) ?_ | (refine EW.eCond (x := .tmp 4) ?_ ?_ <;> (intro hb hb'; (try dsimp only at hb'); (try (exfalso; first | omega | with_reducible exact absurd rfl hb')))))
    all_goals try (refine EW.nm ?_)
    all_goals try (refine EW.eReg (id := 2) ?_; refine EW.eAssign ?_; refine EW.eEnd ?_; (try refine EW.nm ?_))
    all_goals try (with_reducible refine EW.parkK ?_)
    all_goals try (refine EW.eReg (id := 3) ?_; refine EW.eBuildSlice (k := 1) ?_; refine EW.eMove ?_; (first | refine EW.eAppGW (z := 1) ?_ | refine EW.eAppG (z := 1) ?_ | refine EW.eAppZW (z := 1) ?_ | refine EW.eAppZ (z := 1) ?_ | refine EW.eAppSW (z := 1) ?_ | refine EW.eAppS (z := 1) ?_ | refine EW.eAppNW (z := 1) ?_ | refine EW.eAppN (z := 1) ?_); refine EW.eAssign ?_; refine EW.eEnd ?_; (try refine EW.nm ?_))
    all_goals try (with_reducible refine EW.parkK ?_)
    all_goals try (refine EW.Park.mk ?_)
    all_goals (refine EW.eLeaveN [20] hR EW.orP (by rfl) (by rfl) ?_ ?_ rfl rfl EW.nlP rfl rfl; rotate_left 1; (· ((repeat (first | exact EW.atE.nil | refine EW.atE.lt rfl ?_ | refine EW.atE.lf ?_ | refine EW.atE.b rfl EW.SameB.refl ?_ | (refine EW.atE.b rfl ?_ ?_; rotate_left 1))))))
    all_goals rfl
theorem wuint_ok (n : Nat) (bs : List Int) (hn : n < 18446744073709551616) (hl : bs.length ≤ 500000) : CT Try.prog 57 [.c (.p 0 0), .c (.v (.int .u64 n))] (upd EW.emp (WW bs false)) 2 3 (.t []) (upd (upd EW.emp (WW bs false)) [(.b 0, .b (.m true (wcs 2 (bs ++ formN n).length false))), (.l 1, .l false), (.l 2, .l true), (.b 2, .b (.w true (nums .u8 (bs ++ formN n))))]) := by
  refine EW.ctEnter EW.sup1 Try.func57 rfl Try.ntmps57 rfl EW.nlP ?_; intro w0 tch ini R hR
  all_goals try (refine EW.nm ?_)
  all_goals try (refine EW.eReg (id := 0) ?_; refine EW.eBox ?_; refine EW.eEnd ?_; (try refine EW.nm ?_))
  all_goals try (refine EW.eReg (id := 1) ?_; refine EW.eLoad1 ?_; (first | refine EW.eEqN ?_ | refine EW.eEqNN ?_); refine EW.eMove ?_)
  all_goals try (refine EW.eGuard (j := 2) (o := ⟨some 8, _, _, _, _, _⟩) ?_ ?_ <;> (intro hb hb'; (try dsimp only at hb'); (try (exfalso; first | omega | with_reducible exact absurd rfl hb'))))
  all_goals try ((first | refine EW.eSkipF (j := 2) ?_ | refine EW.eSkipU (j := 2) ?_ | refine EW.eLoad1 ?_); (first | refine EW.eSkipF (j := 2) ?_ | refine EW.eSkipU (j := 2) ?_ | refine EW.eNil ?_ | refine EW.eNilF ?_ | refine EW.eNilY ?_ | refine EW.eNilP ?_); (first | refine EW.eSkipF (j := 2) ?_ | refine EW.eSkipU (j := 2) ?_ | refine EW.eFieldAddr (k := 3) ?_); (first | refine EW.eSkipF (j := 2) ?_ | refine EW.eSkipU (j := 2) ?_ | refine EW.eCallN [0, 1] Try.call85 (wfine bs false) ?_); (first | refine EW.eSkipF (j := 2) ?_ | refine EW.eSkipU (j := 2) ?_ | refine EW.eNot ?_); (first | refine EW.ePickT ?_ | refine EW.ePickF ?_); refine EW.eEnd ?_; (try refine EW.nm ?_))
  all_goals try (first | refine EW.eYes (x := .tmp 13) ?_ | refine EW.eNo (x := .tmp 13) ?_ | (refine EW.eCond (x := .tmp 13) ?_ ?_ <;> (intro hb hb'; (try dsimp only at hb'); (try (exfalso; first | omega | with_reducible exact absurd rfl hb')))))
  all_goals try (refine EW.nm ?_)
  all_goals try (with_reducible refine EW.parkK ?_)
  all_goals try (refine EW.eReg (id := 2) ?_; refine EW.eMove ?_; refine EW.eCallN [] Try.call86 (formF n) ?_; refine EW.eEnd ?_; (try refine EW.nm ?_))
  all_goals first | (fail_if_success (with_reducible refine EW.isRange ?_)) | (refine EW.eRange [(2, .c (.p 10 0))] (m := 100) (nD := 60) (nL := 70) [70, 30, 10, 0, 60, 1] Try.call97 (form_uint n bs hn hl) ?_)
  all_goals try (refine EW.nm ?_)
  all_goals try (refine EW.Park.mk ?_)
  all_goals (refine EW.eLeaveN [100] hR EW.orP (by rfl) (by rfl) ?_ ?_ rfl rfl EW.nlP rfl rfl; rotate_left 1; (· ((repeat (first | exact EW.atE.nil | refine EW.atE.lt rfl ?_ | refine EW.atE.lf ?_ | refine EW.atE.b rfl EW.SameB.refl ?_ | (refine EW.atE.b rfl ?_ ?_; rotate_left 1))))))
  all_goals rfl
end Go.Proofs.Ytnmkpekfkfckoaa
/- Sums of bytes, Seal; the document's. -/
namespace Go.Proofs.Ytnmkpekfkfckoaa
set_option linter.unusedSimpArgs false
set_option linter.unusedVariables false
open Go.RowKit EV
open SX (Wr Tv Qu Rm Sh Is conjP eqs_iff eqs_false)
open EW (PlL PlT PlV PlVs LfV Mm Bt Opn GV YT lpOf nums)
set_option maxRecDepth 20000
/-- The sum of bytes. -/
def sumN (bs : List Int) : Nat := 4294967295 - crcN 4294967295 bs
theorem sumN_lt (bs : List Int) : sumN bs < 4294967296 := by unfold sumN; omega
/-- What is put behind them. -/
abbrev sealB (s : Nat) : List Int := [((s % 256 : Nat) : Int), ((s / 256 % 256 : Nat) : Int), ((s / 65536 % 256 : Nat) : Int), ((s / 16777216 : Nat) : Int)]
def sealL (bs : List Int) : List Int := bs ++ sealB (sumN bs)
theorem qu_nat (a b : Nat) (h : a < 4294967296) : Qu .u32 (a : Int) (b : Int) ((a / b : Nat) : Int) := ⟨by
  have := Nat.div_le_self a b
  rw [Int.tdiv_eq_ediv_of_nonneg (by omega), ← Int.natCast_ediv, IntKind.wrap_u32]
  generalize a / b = c at *
  omega⟩
theorem rm_nat (a b : Nat) : Rm (a : Int) (b : Int) ((a % b : Nat) : Int) := ⟨by rw [Int.tmod_eq_emod_of_nonneg (by omega), ← Int.natCast_emod]⟩
theorem bx_nat {a b : Nat} (ha : a < 4294967296) (hB : b < 4294967296) : Bt .u32 .xor (a : Int) (b : Int) ((a ^^^ b : Nat) : Int) := by
  refine ⟨?_⟩
  have : xorV (a : Int) (b : Int) = ((a ^^^ b : Nat) : Int) := xorV_nat ha hB
  rw [← this]; rfl
theorem dshift (n : Nat) (w : World) (h : n < 4294967296) : Calls Try.prog 98 #[.int .u32 (n : Int)] w fun e w' => e = .returned (.int .u32 (shN n : Int)) ∧ Below w.heap.size w w' := by
  have q : Qu .u32 (n : Int) 2 ((n / 2 : Nat) : Int) := qu_nat n 2 h
  have m : Rm (n : Int) 2 ((n % 2 : Nat) : Int) := rm_nat n 2
  have hx := bx_nat (a := n / 2) (b := 3988292384) (by omega) (by omega)
  rcases Nat.mod_two_eq_zero_or_one n with h0 | h0
  · have e : shN n = n / 2 := by unfold shN; rw [if_neg (by omega), Nat.xor_zero]
    rw [e]
    rw [h0] at m
    refine EW.eEnter Try.func98 rfl Try.ntmps98 ?_
    all_goals try (refine EW.nm ?_)
    all_goals try (refine EW.eReg (id := 0) ?_; refine EW.eAssign ?_; refine EW.eEnd ?_; (try refine EW.nm ?_))
    all_goals try (refine EW.eReg (id := 1) ?_; refine EW.eMove ?_; refine EW.eRem ?_ (hr' := m); refine EW.eEql ?_; refine EW.eEnd ?_; (try refine EW.nm ?_))
    all_goals try (first | refine EW.eYes (x := .tmp 5) ?_ | refine EW.eNo (x := .tmp 5) ?_ | (refine EW.eCond (x := .tmp 5) ?_ ?_ <;> (intro hb hb'; (try dsimp only at hb'); (try (exfalso; first | omega | with_reducible exact absurd rfl hb')))))
    all_goals try (refine EW.nm ?_)
    all_goals try (refine EW.eReg (id := 2) ?_; refine EW.eMove ?_; refine EW.eQuo ?_; refine EW.eXor ?_; refine EW.eAssign ?_; refine EW.eEnd ?_; (try refine EW.nm ?_))
    all_goals try (with_reducible refine EW.parkK ?_)
    all_goals try (refine EW.eReg (id := 3) ?_; refine EW.eMove ?_; refine EW.eQuo ?_ (hr' := q); refine EW.eAssign ?_; refine EW.eEnd ?_; (try refine EW.nm ?_))
    all_goals try (with_reducible refine EW.parkK ?_)
    all_goals try (refine EW.Park.mk ?_)
    all_goals (refine EW.eLeaveP ?_; intro w' hW; refine ⟨?_, hW⟩)
    all_goals rfl
  · have e : shN n = n / 2 ^^^ 3988292384 := by unfold shN; rw [if_pos h0]
    rw [e]
    rw [h0] at m
    refine EW.eEnter Try.func98 rfl Try.ntmps98 ?_
    all_goals try (refine EW.nm ?_)
    all_goals try (refine EW.eReg (id := 0) ?_; refine EW.eAssign ?_; refine EW.eEnd ?_; (try refine EW.nm ?_))
    all_goals try (refine EW.eReg (id := 1) ?_; refine EW.eMove ?_; refine EW.eRem ?_ (hr' := m); refine EW.eEql ?_; refine EW.eEnd ?_; (try refine EW.nm ?_))
    all_goals try (first | refine EW.eYes (x := .tmp 5) ?_ | refine EW.eNo (x := .tmp 5) ?_ | (refine EW.eCond (x := .tmp 5) ?_ ?_ <;> (intro hb hb'; (try dsimp only at hb'); (try (exfalso; first | omega | with_reducible exact absurd rfl hb')))))
    all_goals try (refine EW.nm ?_)
    all_goals try (refine EW.eReg (id := 2) ?_; refine EW.eMove ?_; refine EW.eQuo ?_ (hr' := q); refine EW.eXor ?_ (hr' := hx); refine EW.eAssign ?_; refine EW.eEnd ?_; (try refine EW.nm ?_))
    all_goals try (with_reducible refine EW.parkK ?_)
    all_goals try (refine EW.eReg (id := 3) ?_; refine EW.eMove ?_; refine EW.eQuo ?_; refine EW.eAssign ?_; refine EW.eEnd ?_; (try refine EW.nm ?_))
    all_goals try (with_reducible refine EW.parkK ?_)
    all_goals try (refine EW.Park.mk ?_)
    all_goals (refine EW.eLeaveP ?_; intro w' hW; refine ⟨?_, hW⟩)
    all_goals rfl
end Go.Proofs.Ytnmkpekfkfckoaa
/- Package pack: the writer's other calls. -/
namespace Go.Proofs.Ytnmkpekfkfckoaa
set_option linter.unusedSimpArgs false
set_option linter.unusedVariables false
open Go.RowKit EV
open SX (Wr Tv Qu Rm Sh Is conjP eqs_iff eqs_false)
open EW (PlL PlT PlV PlVs LfV Mm Bt Opn GV YT lpOf nums)
set_option maxRecDepth 20000
/-- What becomes of a writer's bytes, in new memory. -/
abbrev Wmore (bs : List Int) : Ws := [(.b 0, .b (.m true (wcs 2 bs.length false))), (.l 1, .l false), (.l 2, .l true), (.b 2, .b (.w true (nums .u8 bs)))]
theorem wsmall_ok (n : Nat) (m : Int) (bs : List Int) (h : (n : Int) ≤ m) (hm : m ≤ 9223372036854775807) (hl : bs.length ≤ 500000) : CT Try.prog 33 [.c (.p 0 0), .c (.v (.int .i64 n)), .c (.v (.int .i64 m))] (upd EW.emp (WW bs false)) 2 3 (.t []) (upd (upd EW.emp (WW bs false)) (Wmore (bs ++ formN n))) := by
  refine EW.ctEnter EW.sup1 Try.func33 rfl Try.ntmps33 rfl EW.nlP ?_; intro w0 tch ini R hR
  all_goals try (refine EW.nm ?_)
  all_goals try (refine EW.eReg (id := 0) ?_; refine EW.eMove ?_; refine EW.eLss ?_; refine EW.eMove ?_)
  all_goals try (refine EW.eGuard (j := 2) (o := ⟨some 9, _, _, _, _, _⟩) ?_ ?_ <;> (intro hb hb'; (try dsimp only at hb'); (try (exfalso; first | omega | with_reducible exact absurd rfl hb'))))
  all_goals try ((first | refine EW.eSkipF (j := 2) ?_ | refine EW.eSkipU (j := 2) ?_ | refine EW.eMove ?_); (first | refine EW.eSkipF (j := 2) ?_ | refine EW.eSkipU (j := 2) ?_ | refine EW.eMove ?_); (first | refine EW.eSkipF (j := 2) ?_ | refine EW.eSkipU (j := 2) ?_ | refine EW.eGtr ?_); (first | refine EW.ePickT ?_ | refine EW.ePickF ?_); refine EW.eEnd ?_; (try refine EW.nm ?_))
  all_goals try (first | refine EW.eYes (x := .tmp 12) ?_ | refine EW.eNo (x := .tmp 12) ?_ | (refine EW.eCond (x := .tmp 12) ?_ ?_ <;> (intro hb hb'; (try dsimp only at hb'); (try (exfalso; first | omega | with_reducible exact absurd rfl hb')))))
  all_goals try (refine EW.nm ?_)
  all_goals try (refine EW.eReg (id := 1) ?_; refine EW.eMove ?_; fail "no contract of (*mullion/pack.Writer).spoilt"; refine EW.eEnd ?_; (try refine EW.nm ?_))
  all_goals try (with_reducible refine EW.parkK ?_)
  all_goals try (refine EW.eReg (id := 2) ?_; refine EW.eMove ?_; refine EW.eMove ?_; refine EW.eConv ?_; refine EW.eCallN [0, 1] Try.call57 (wuint_ok n bs (by omega) hl) ?_; refine EW.eEnd ?_; (try refine EW.nm ?_))
  all_goals try (refine EW.Park.mk ?_)
  all_goals (refine EW.eLeaveN [10] hR EW.orP (by rfl) (by rfl) ?_ ?_ rfl rfl EW.nlP rfl rfl; rotate_left 1; (· ((repeat (first | exact EW.atE.nil | refine EW.atE.lt rfl ?_ | refine EW.atE.lf ?_ | refine EW.atE.b rfl EW.SameB.refl ?_ | (refine EW.atE.b rfl ?_ ?_; rotate_left 1))))))
  all_goals rfl
end Go.Proofs.Ytnmkpekfkfckoaa
