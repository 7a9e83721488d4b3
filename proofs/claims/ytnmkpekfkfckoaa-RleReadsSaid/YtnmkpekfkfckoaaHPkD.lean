import Derived.Test.YtnmkpekfkfckoaaHCrL
import Derived.Test.YtnmkpekfkfckoaaHPkC
/- Sums of bytes, Seal; the document's. -/
namespace Go.Proofs.Ytnmkpekfkfckoaa
set_option linter.unusedSimpArgs false
set_option linter.unusedVariables false
open Go.RowKit EV
open SX (Wr Tv Qu Rm Sh Is conjP eqs_iff eqs_false)
open EW (PlL PlT PlV PlVs LfV Mm Bt Opn GV YT lpOf nums)
set_option maxRecDepth 20000
/-- The sum of bytes. -/
def sumN (bs : List Int) : Nat := 4294967295 - crcN 4294967295 bs
theorem sumN_lt (bs : List Int) : sumN bs < 4294967296 := by unfold sumN; omega
/-- What is put behind them. -/
abbrev sealB (s : Nat) : List Int := [((s % 256 : Nat) : Int), ((s / 256 % 256 : Nat) : Int), ((s / 65536 % 256 : Nat) : Int), ((s / 16777216 : Nat) : Int)]
def sealL (bs : List Int) : List Int := bs ++ sealB (sumN bs)
theorem nums_put (k : IntKind) (l : List Int) (c : Int) : nums k l ++ [.int k c] = nums k (l ++ [c]) := by simp [nums]
theorem qu_nat (a b : Nat) (h : a < 4294967296) : Qu .u32 (a : Int) (b : Int) ((a / b : Nat) : Int) := ⟨by
  have := Nat.div_le_self a b
  rw [Int.tdiv_eq_ediv_of_nonneg (by omega), ← Int.natCast_ediv, IntKind.wrap_u32]
  generalize a / b = c at *
  omega⟩
theorem rm_nat (a b : Nat) : Rm (a : Int) (b : Int) ((a % b : Nat) : Int) := ⟨by rw [Int.tmod_eq_emod_of_nonneg (by omega), ← Int.natCast_emod]⟩
theorem bx_nat {a b : Nat} (ha : a < 4294967296) (hB : b < 4294967296) : Bt .u32 .xor (a : Int) (b : Int) ((a ^^^ b : Nat) : Int) := by
  refine ⟨?_⟩
  have : xorV (a : Int) (b : Int) = ((a ^^^ b : Nat) : Int) := xorV_nat ha hB
  rw [← this]; rfl
theorem dshift (n : Nat) (w : World) (h : n < 4294967296) : Calls Try.prog 98 #[.int .u32 (n : Int)] w fun e w' => e = .returned (.int .u32 (shN n : Int)) ∧ Below w.heap.size w w' := by
  have q : Qu .u32 (n : Int) 2 ((n / 2 : Nat) : Int) := qu_nat n 2 h
  have m : Rm (n : Int) 2 ((n % 2 : Nat) : Int) := rm_nat n 2
  have hx := bx_nat (a := n / 2) (b := 3988292384) (by omega) (by omega)
  rcases Nat.mod_two_eq_zero_or_one n with h0 | h0
  · have e : shN n = n / 2 := by unfold shN; rw [if_neg (by omega), Nat.xor_zero]
    rw [e]
    rw [h0] at m
    refine EW.eEnter Try.func98 rfl Try.ntmps98 ?_
    all_goals try (refine EW.nm ?_)
    all_goals try ((first | refine EW.eRegL (id := 0) ?_ | refine EW.eReg (id := 0) ?_); refine EW.eAssign ?_; refine EW.eEnd ?_; (try refine EW.nm ?_))
    all_goals try ((first | refine EW.eRegL (id := 1) ?_ | refine EW.eReg (id := 1) ?_); refine EW.eMove ?_; refine EW.eRem ?_ (hr' := m); refine EW.eEql ?_; refine EW.eEnd ?_; (try refine EW.nm ?_))
    all_goals try (first | refine EW.eYes (x := Operand.tmp 5) ?_ | refine EW.eNo (x := Operand.tmp 5) ?_ | (refine EW.eCond (x := Operand.tmp 5) ?_ ?_ <;> (intro hb hb'; (try dsimp only at hb'); (try (exfalso; first | omega | with_reducible exact absurd rfl hb')))))
    all_goals try (refine EW.nm ?_)
    all_goals try ((first | refine EW.eRegL (id := 2) ?_ | refine EW.eReg (id := 2) ?_); refine EW.eMove ?_; refine EW.eQuo ?_; refine EW.eXor ?_; refine EW.eAssign ?_; refine EW.eEnd ?_; (try refine EW.nm ?_))
    all_goals try (with_reducible refine EW.parkK ?_)
    all_goals try ((first | refine EW.eRegL (id := 3) ?_ | refine EW.eReg (id := 3) ?_); refine EW.eMove ?_; refine EW.eQuo ?_ (hr' := q); refine EW.eAssign ?_; refine EW.eEnd ?_; (try refine EW.nm ?_))
    all_goals try (with_reducible refine EW.parkK ?_)
    all_goals try (refine EW.Park.mk ?_)
    all_goals (refine EW.eLeaveP ?_; intro w' hW; refine ⟨?_, hW⟩)
    all_goals rfl
  · have e : shN n = n / 2 ^^^ 3988292384 := by unfold shN; rw [if_pos h0]
    rw [e]
    rw [h0] at m
    refine EW.eEnter Try.func98 rfl Try.ntmps98 ?_
    all_goals try (refine EW.nm ?_)
    all_goals try ((first | refine EW.eRegL (id := 0) ?_ | refine EW.eReg (id := 0) ?_); refine EW.eAssign ?_; refine EW.eEnd ?_; (try refine EW.nm ?_))
    all_goals try ((first | refine EW.eRegL (id := 1) ?_ | refine EW.eReg (id := 1) ?_); refine EW.eMove ?_; refine EW.eRem ?_ (hr' := m); refine EW.eEql ?_; refine EW.eEnd ?_; (try refine EW.nm ?_))
    all_goals try (first | refine EW.eYes (x := Operand.tmp 5) ?_ | refine EW.eNo (x := Operand.tmp 5) ?_ | (refine EW.eCond (x := Operand.tmp 5) ?_ ?_ <;> (intro hb hb'; (try dsimp only at hb'); (try (exfalso; first | omega | with_reducible exact absurd rfl hb')))))
    all_goals try (refine EW.nm ?_)
    all_goals try ((first | refine EW.eRegL (id := 2) ?_ | refine EW.eReg (id := 2) ?_); refine EW.eMove ?_; refine EW.eQuo ?_ (hr' := q); refine EW.eXor ?_ (hr' := hx); refine EW.eAssign ?_; refine EW.eEnd ?_; (try refine EW.nm ?_))
    all_goals try (with_reducible refine EW.parkK ?_)
    all_goals try ((first | refine EW.eRegL (id := 3) ?_ | refine EW.eReg (id := 3) ?_); refine EW.eMove ?_; refine EW.eQuo ?_; refine EW.eAssign ?_; refine EW.eEnd ?_; (try refine EW.nm ?_))
    all_goals try (with_reducible refine EW.parkK ?_)
    all_goals try (refine EW.Park.mk ?_)
    all_goals (refine EW.eLeaveP ?_; intro w' hW; refine ⟨?_, hW⟩)
    all_goals rfl
end Go.Proofs.Ytnmkpekfkfckoaa
/- Package pack: the writer's other calls. -/
namespace Go.Proofs.Ytnmkpekfkfckoaa
set_option linter.unusedSimpArgs false
set_option linter.unusedVariables false
open Go.RowKit EV
open SX (Wr Tv Qu Rm Sh Is conjP eqs_iff eqs_false)
open EW (PlL PlT PlV PlVs LfV Mm Bt Opn GV YT lpOf nums)
set_option maxRecDepth 20000
/-- What becomes of a writer's bytes, in new memory. -/
abbrev Wmore (bs : List Int) : Ws := [(.b 0, .b (.m true (wcs 2 bs.length false))), (.l 1, .l false), (.l 2, .l true), (.b 2, .b (.w true (nums .u8 bs)))]
theorem wsmall_ok (n : Nat) (m : Int) (bs : List Int) (h : (n : Int) ≤ m) (hm : m ≤ 9223372036854775807) (hl : bs.length ≤ 500000) : CT Try.prog 33 [.c (.p 0 0), .c (.v (.int .i64 n)), .c (.v (.int .i64 m))] (upd EW.emp (WW bs false)) 2 3 (.t []) (upd (upd EW.emp (WW bs false)) (Wmore (bs ++ formN n))) := by
  refine EW.ctEnter [10, 20, 30, 40, 50, 60, 70, 80, 90, 100, 110, 120, 130, 140, 150, 160, 170, 180, 190, 200, 210, 220, 230, 240, 250, 260, 270, 280, 290, 300, 310, 320, 330, 340, 350, 360, 370, 380, 390, 400, 410, 420, 430, 440, 450, 460, 470, 480, 490, 500, 510, 520, 530, 540, 550, 560, 570, 580, 590, 600] Try.func33 rfl Try.ntmps33 rfl (by (((repeat (first | exact EW.NL.emp | (refine EW.NL.upd ?_ rfl) | refine EW.NL.drp ?_ | refine EW.NL.hp ?_ | refine EW.NL.argS ?_ | refine EW.NL.mix ?_)); (first | done | fail)))) ?_; intro w0 tch ini R hR
  all_goals try (refine EW.nm ?_)
  all_goals try ((first | refine EW.eRegL (id := 0) ?_ | refine EW.eReg (id := 0) ?_); refine EW.eMove ?_; refine EW.eLss ?_; refine EW.eMove ?_)
  all_goals try (refine EW.eGuard (j := 2) (o := ⟨some 9, _, _, _, _, _⟩) ?_ ?_ <;> (intro hb hb'; (try dsimp only at hb'); (try (exfalso; first | omega | with_reducible exact absurd rfl hb'))))
  all_goals try ((first | refine EW.eSkipF (j := 2) ?_ | refine EW.eSkipU (j := 2) ?_ | refine EW.eMove ?_); (first | refine EW.eSkipF (j := 2) ?_ | refine EW.eSkipU (j := 2) ?_ | refine EW.eMove ?_); (first | refine EW.eSkipF (j := 2) ?_ | refine EW.eSkipU (j := 2) ?_ | refine EW.eGtr ?_); (first | refine EW.ePickT ?_ | refine EW.ePickF ?_); refine EW.eEnd ?_; (try refine EW.nm ?_))
  all_goals try (first | refine EW.eYes (x := Operand.tmp 12) ?_ | refine EW.eNo (x := Operand.tmp 12) ?_ | (refine EW.eCond (x := Operand.tmp 12) ?_ ?_ <;> (intro hb hb'; (try dsimp only at hb'); (try (exfalso; first | omega | with_reducible exact absurd rfl hb')))))
  all_goals try (refine EW.nm ?_)
  all_goals try ((first | refine EW.eRegL (id := 1) ?_ | refine EW.eReg (id := 1) ?_); refine EW.eMove ?_; fail "no contract of (*mullion/pack.Writer).spoilt"; refine EW.eEnd ?_; (try refine EW.nm ?_))
  all_goals try (with_reducible refine EW.parkK ?_)
  all_goals try ((first | refine EW.eRegL (id := 2) ?_ | refine EW.eReg (id := 2) ?_); refine EW.eMove ?_; refine EW.eMove ?_; refine EW.eConv ?_; refine EW.eCallN [0, 1] Try.call57 (wuint_ok n bs (by omega) hl) ?_; refine EW.eEnd ?_; (try refine EW.nm ?_))
  all_goals try (refine EW.Park.mk ?_)
  all_goals (refine EW.eLeaveN [10] hR (by first | exact .inl rfl | exact .inr rfl) (by rfl) (by rfl) ?_ ?_ rfl rfl (by (((repeat (first | exact EW.NL.emp | (refine EW.NL.upd ?_ rfl) | refine EW.NL.drp ?_ | refine EW.NL.hp ?_ | refine EW.NL.argS ?_ | refine EW.NL.mix ?_)); (first | done | fail)))) rfl rfl; rotate_left 1; (· ((repeat (first | exact EW.atE.nil | refine EW.atE.lt rfl ?_ | refine EW.atE.lf ?_ | refine EW.atE.b rfl EW.SameB.refl ?_ | (refine EW.atE.b rfl ?_ ?_; rotate_left 1))))))
  all_goals rfl
end Go.Proofs.Ytnmkpekfkfckoaa
