/- RleSpoilt: the walk. -/
import Derived.Test.YtnmkpekfkfckoaaHRmH
import Derived.Test.YtnmkpekfkfckoaaHCrB
namespace Go.Proofs.Ytnmkpekfkfckoaa
set_option linter.unusedSimpArgs false
set_option linter.unusedVariables false
open Go.RowKit Go.ChangeShapes Go.WideShapes EV
open SX (Wr Tv Qu Rm Sh Is conjP eqs_iff eqs_false)
open EW (PlL PlT PlV PlVs LfV Mm Bt Opn GV YT lpOf nums)
set_option maxRecDepth 20000
theorem bx8_nat {a b : Nat} (ha : a < 256) (hB : b < 256) : Bt .u8 .xor (a : Int) (b : Int) ((a ^^^ b : Nat) : Int) := by
  refine ⟨?_⟩
  show some (Value.int .u8 (IntKind.u8.wrap ((BitVec.ofInt 8 _ ^^^ BitVec.ofInt 8 _).toNat : Int))) = _
  have ea : (BitVec.ofInt 8 (a : Int)).toNat = a := by rw [BitVec.toNat_ofInt]; omega
  have eb : (BitVec.ofInt 8 (b : Int)).toNat = b := by rw [BitVec.toNat_ofInt]; omega
  have hx : a ^^^ b < 2 ^ 8 := Nat.xor_lt_two_pow ha hB
  rw [BitVec.toNat_xor, ea, eb, IntKind.wrap_u8]
  congr 2
  omega
theorem qi_nat (a b : Nat) (h : a < 9000000000000000000) : Qu .i64 (a : Int) (b : Int) ((a / b : Nat) : Int) := ⟨by
  have := Nat.div_le_self a b
  rw [Int.tdiv_eq_ediv_of_nonneg (by omega), ← Int.natCast_ediv, IntKind.wrap_i64]
  generalize a / b = c at *
  omega⟩
theorem sh32 {i : Nat} (h : i < 32) : Sh .u32 (i : Int) (2 ^ i) := ⟨by
  rw [Int.toNat_natCast, show IntKind.u32.bits = 32 from rfl, Nat.min_eq_left (by omega)]⟩
theorem sh8 {i : Nat} (h : i < 8) : Sh .u8 (i : Int) (2 ^ i) := ⟨by
  rw [Int.toNat_natCast, show IntKind.u8.bits = 8 from rfl, Nat.min_eq_left (by omega)]⟩
theorem wr8 {r : Nat} (h : r < 8) : Wr .u8 (1 * 2 ^ r) ((2 ^ r : Nat) : Int) := ⟨by
  have hp : 2 ^ r < 2 ^ 8 := Nat.pow_lt_pow_right (by omega) h
  have e : (2 : Int) ^ r = ((2 ^ r : Nat) : Int) := by rw [Int.natCast_pow]; rfl
  rw [Int.one_mul, e, IntKind.wrap_u8]
  generalize 2 ^ r = y at hp
  omega⟩
/-- What turning a bit wants. -/
theorem turn_facts {b c : List Int} {f i : Nat} (hw : Within b f i c) (hf : f + i < 8 * b.length) (hl : b.length ≤ 1000000 := by omega) :
    ∃ x j r : Nat, j < c.length ∧ r < 8 ∧ x < 256 ∧ Qu .i64 ((f + i : Nat) : Int) 8 (j : Int) ∧ Rm ((f + i : Nat) : Int) 8 (r : Int) ∧ Sh .u8 (r : Int) (2 ^ r) ∧ Wr .u8 (1 * 2 ^ r) ((2 ^ r : Nat) : Int) ∧ Bt .u8 .xor (c.getD j 0) ((2 ^ r : Nat) : Int) ((x ^^^ 2 ^ r : Nat) : Int) ∧ Within b f (i + 1) (c.set j ((x ^^^ 2 ^ r : Nat) : Int)) := by
  have hlc := hw.2.1
  obtain ⟨x, hx, hx8⟩ := by_nat hw.1 (i := (f + i) / 8) (by omega)
  have hr : (f + i) % 8 < 8 := Nat.mod_lt _ (by omega)
  have hp : 2 ^ ((f + i) % 8) < 2 ^ 8 := Nat.pow_lt_pow_right (by omega) hr
  exact ⟨x, (f + i) / 8, (f + i) % 8, by omega, hr, hx8, qi_nat (f + i) 8 (by omega), rm_nat (f + i) 8, sh8 hr, wr8 hr, by rw [hx]; exact bx8_nat hx8 hp, within_turn hw hf hx⟩
theorem spoilt_end {q b c : List Int} {l : List Px} {f i : Nat} (hby : By q) (hb9 : sealL q = b) (hD0 : DecR 20 false b l 0) (hyb : By b) (hw : Within b f i c) (hi : i ≤ 32) (hl : b.length ≤ 800000) :
    ∃ m e t, By c ∧ (((nums .u8 c).map C.v).drop 0).take b.length = ((U c).map u8V).map C.v ∧ CT Try.prog 20 [.c (.g 0 0 b.length b.length 1)] (upd EW.emp (WB false c)) 1 2 (.t [.inl (.g 1 0 m.length m.length 4), .inl (.v (.int .i64 e))]) (upd (upd EW.emp (WB false c)) [(.l 1, .l true), (.b 1, .b (.w true (pvs m)))]) ∧ Tv ((U b) == (U c)) t ∧ ((t = true ∧ m = l ∧ e = 0) ∨ (t = false ∧ m = [] ∧ e = 40)) := by
  have hyc := hw.1
  have hlc := hw.2.1
  have htc := text_all hyc
  rw [hlc] at htc
  rw [← hb9] at hw
  rcases within_open hby hw hi with he | hns
  · rw [hb9] at he
    subst he
    exact ⟨l, 0, true, hyc, htc, hD0, ⟨by simp⟩, .inl ⟨rfl, rfl, rfl⟩⟩
  · have hD := idec_s c hyc (by omega) hns
    unfold DecR at hD
    rw [hlc] at hD
    refine ⟨[], 40, false, hyc, htc, hD, ⟨?_⟩, .inr ⟨rfl, rfl, rfl⟩⟩
    have hne : ¬ U b = U c := fun h => by
      have := u_inj hyb hyc h
      subst this
      exact hns (by rw [← hb9, body_seal])
    simp [hne]
abbrev RS_ (l : List Px) (at_ mask : Int) : Prop := CT Try.prog 6 [.c (.g 0 0 l.length l.length 4), .c (.v (.int .u16 at_)), .c (.v (.int .u32 mask))] (upd EW.emp (WP false l)) 1 1 (.c (.v (.bool true))) (upd (upd EW.emp (WP false l)) [])
theorem spoilt_far (l : List Px) (at_ mask : Int) (h : 500 < l.length) : RS_ l at_ mask := by
  refine EW.ctEnter [10, 20, 30, 40, 50, 60, 70, 80, 90, 100, 110, 120, 130, 140, 150, 160, 170, 180, 190, 200, 210, 220, 230, 240, 250, 260, 270, 280, 290, 300, 310, 320, 330, 340, 350, 360, 370, 380, 390, 400, 410, 420, 430, 440, 450, 460, 470, 480, 490, 500, 510, 520, 530, 540, 550, 560, 570, 580, 590, 600] Try.func6 rfl Try.ntmps6 rfl (by (((repeat (first | exact EW.NL.emp | (refine EW.NL.upd ?_ rfl) | refine EW.NL.drp ?_ | refine EW.NL.hp ?_ | refine EW.NL.argS ?_ | refine EW.NL.mix ?_)); (first | done | fail)))) ?_; intro w0 tch ini R hR
  all_goals try (refine EW.nm ?_)
  all_goals try ((first | refine EW.eRegL (id := 0) ?_ | refine EW.eReg (id := 0) ?_); refine EW.eAssign ?_; refine EW.eEnd ?_; (try refine EW.nm ?_))
  all_goals try ((first | refine EW.eRegL (id := 1) ?_ | refine EW.eReg (id := 1) ?_); refine EW.eCall Try.call26 (fun w => ralive w) ?_; refine EW.eAssign ?_; refine EW.eEnd ?_; (try refine EW.nm ?_))
  all_goals try ((first | refine EW.eRegL (id := 2) ?_ | refine EW.eReg (id := 2) ?_); refine EW.eMove ?_; (first | refine EW.eLenS ?_ | refine EW.eLenG ?_ | refine EW.eLenN ?_); refine EW.eGtr ?_; refine EW.eMove ?_)
  all_goals try (refine EW.eGuard (j := 3) (o := ⟨some 20, _, _, _, _, _⟩) ?_ ?_ <;> (intro hb hb'; (try dsimp only at hb'); (try (exfalso; first | omega | with_reducible exact absurd rfl hb'))))
  all_goals try ((first | refine EW.eSkipF (j := 3) ?_ | refine EW.eSkipU (j := 3) ?_ | refine EW.eMove ?_); (first | refine EW.eSkipF (j := 3) ?_ | refine EW.eSkipU (j := 3) ?_ | refine EW.eNot ?_); (first | refine EW.ePickT ?_ | refine EW.ePickF ?_); refine EW.eEnd ?_; (try refine EW.nm ?_))
  all_goals try (first | refine EW.eYes (x := Operand.tmp 22) ?_ | refine EW.eNo (x := Operand.tmp 22) ?_ | (refine EW.eCond (x := Operand.tmp 22) ?_ ?_ <;> (intro hb hb'; (try dsimp only at hb'); (try (exfalso; first | omega | with_reducible exact absurd rfl hb')))))
  all_goals try (refine EW.nm ?_)
  all_goals try ((first | refine EW.eRegL (id := 3) ?_ | refine EW.eReg (id := 3) ?_); refine EW.eMove ?_; refine EW.eAssign ?_; refine EW.eEnd ?_; (try refine EW.nm ?_))
  all_goals try (with_reducible refine EW.parkK ?_)
  all_goals try ((first | refine EW.eRegL (id := 4) ?_ | refine EW.eReg (id := 4) ?_); refine EW.eMove ?_; fail "no contract of mullion/rle.Encode"; refine EW.eMove ?_; (first | refine EW.eExtC ?_ | refine EW.eExtA ?_); (first | refine EW.eExtC ?_ | refine EW.eExtA ?_); refine EW.eAssign ?_; refine EW.eAssign ?_; refine EW.eEnd ?_; (try refine EW.nm ?_))
  all_goals try ((first | refine EW.eRegL (id := 5) ?_ | refine EW.eReg (id := 5) ?_); refine EW.eMove ?_; refine EW.eNeq ?_; refine EW.eMove ?_)
  all_goals try (refine EW.eGuard (j := 2) (o := ⟨some 32, _, _, _, _, _⟩) ?_ ?_ <;> (intro hb hb'; (try dsimp only at hb'); (try (exfalso; first | omega | with_reducible exact absurd rfl hb'))))
  all_goals try ((first | refine EW.eSkipF (j := 2) ?_ | refine EW.eSkipU (j := 2) ?_ | refine EW.eMove ?_); (first | refine EW.eSkipF (j := 2) ?_ | refine EW.eSkipU (j := 2) ?_ | refine EW.eLenS ?_ | refine EW.eLenG ?_ | refine EW.eLenN ?_); (first | refine EW.eSkipF (j := 2) ?_ | refine EW.eSkipU (j := 2) ?_ | refine EW.eLss ?_); (first | refine EW.ePickT ?_ | refine EW.ePickF ?_); refine EW.eEnd ?_; (try refine EW.nm ?_))
  all_goals try (first | refine EW.eYes (x := Operand.tmp 35) ?_ | refine EW.eNo (x := Operand.tmp 35) ?_ | (refine EW.eCond (x := Operand.tmp 35) ?_ ?_ <;> (intro hb hb'; (try dsimp only at hb'); (try (exfalso; first | omega | with_reducible exact absurd rfl hb')))))
  all_goals try (refine EW.nm ?_)
  all_goals try ((first | refine EW.eRegL (id := 6) ?_ | refine EW.eReg (id := 6) ?_); refine EW.eMove ?_; refine EW.eMove ?_)
  all_goals try (refine EW.eGuard (j := 1) (o := ⟨some 38, _, _, _, _, _⟩) ?_ ?_ <;> (intro hb hb'; (try dsimp only at hb'); (try (exfalso; first | omega | with_reducible exact absurd rfl hb'))))
  all_goals try ((first | refine EW.eSkipT (j := 1) ?_ | refine EW.eSkipU (j := 1) ?_ | refine EW.eMove ?_); (first | refine EW.eSkipT (j := 1) ?_ | refine EW.eSkipU (j := 1) ?_ | refine EW.eNeq ?_); (first | refine EW.ePickT ?_ | refine EW.ePickF ?_); refine EW.eAssign ?_; refine EW.eEnd ?_; (try refine EW.nm ?_))
  all_goals try (with_reducible refine EW.parkK ?_)
  all_goals try ((first | refine EW.eRegL (id := 7) ?_ | refine EW.eReg (id := 7) ?_); refine EW.eBuildSlice (k := 1) ?_; refine EW.eMove ?_; (first | refine EW.eAppGW (z := 1) ?_ | refine EW.eAppG (z := 1) ?_ | refine EW.eAppZW (z := 1) ?_ | refine EW.eAppZ (z := 1) ?_ | refine EW.eAppSW (z := 1) ?_ | refine EW.eAppS (z := 1) ?_ | refine EW.eAppNW (z := 1) ?_ | refine EW.eAppN (z := 1) ?_); refine EW.eAssign ?_; refine EW.eEnd ?_; (try refine EW.nm ?_))
  all_goals try ((first | refine EW.eRegL (id := 8) ?_ | refine EW.eReg (id := 8) ?_); refine EW.eMove ?_; refine EW.eConv ?_; refine EW.eMove ?_; (first | refine EW.eLenS ?_ | refine EW.eLenG ?_ | refine EW.eLenN ?_); refine EW.eMul ?_; refine EW.eRem ?_; refine EW.eAssign ?_; refine EW.eEnd ?_; (try refine EW.nm ?_))
  all_goals try ((first | refine EW.eRegL (id := 9) ?_ | refine EW.eReg (id := 9) ?_); refine EW.eAssign ?_; refine EW.eEnd ?_; (try refine EW.nm ?_))
  all_goals try (refine EW.eUnroll 6 ?_)
  all_goals try (refine EW.nm ?_)
  iterate 6 (
    all_goals try ((first | refine EW.eRegL (id := 10) ?_ | refine EW.eReg (id := 10) ?_); refine EW.eMove ?_; refine EW.eLss ?_; refine EW.eMove ?_)
    all_goals try (refine EW.eGuard (j := 2) (o := ⟨some 53, _, _, _, _, _⟩) ?_ ?_ <;> (intro hb hb'; (try dsimp only at hb'); (try (exfalso; first | omega | with_reducible exact absurd rfl hb'))))
    all_goals try ((first | refine EW.eSkipT (j := 2) ?_ | refine EW.eSkipU (j := 2) ?_ | refine EW.eMove ?_); (first | refine EW.eSkipT (j := 2) ?_ | refine EW.eSkipU (j := 2) ?_ | refine EW.eMove ?_); (first | refine EW.eSkipT (j := 2) ?_ | refine EW.eSkipU (j := 2) ?_ | refine EW.eAdd ?_); (first | refine EW.eSkipT (j := 2) ?_ | refine EW.eSkipU (j := 2) ?_ | refine EW.eMove ?_); (first | refine EW.eSkipT (j := 2) ?_ | refine EW.eSkipU (j := 2) ?_ | refine EW.eLenS ?_ | refine EW.eLenG ?_ | refine EW.eLenN ?_); (first | refine EW.eSkipT (j := 2) ?_ | refine EW.eSkipU (j := 2) ?_ | refine EW.eMul ?_); (first | refine EW.eSkipT (j := 2) ?_ | refine EW.eSkipU (j := 2) ?_ | refine EW.eLss ?_); (first | refine EW.ePickT ?_ | refine EW.ePickF ?_); refine EW.eEnd ?_; (try refine EW.nm ?_))
    all_goals try (first | refine EW.eYes (x := Operand.tmp 60) ?_ | refine EW.eNo (x := Operand.tmp 60) ?_ | (refine EW.eCond (x := Operand.tmp 60) ?_ ?_ <;> (intro hb hb'; (try dsimp only at hb'); (try (exfalso; first | omega | with_reducible exact absurd rfl hb')))))
    all_goals try (refine EW.nm ?_)
    all_goals try ((first | refine EW.eRegL (id := 12) ?_ | refine EW.eReg (id := 12) ?_); refine EW.eMove ?_; refine EW.eMove ?_; refine EW.eConv ?_; refine EW.eShr ?_; refine EW.eRem ?_; refine EW.eEql ?_; refine EW.eEnd ?_; (try refine EW.nm ?_))
    all_goals try (first | refine EW.eYes (x := Operand.tmp 68) ?_ | refine EW.eNo (x := Operand.tmp 68) ?_ | (refine EW.eCond (x := Operand.tmp 68) ?_ ?_ <;> (intro hb hb'; (try dsimp only at hb'); (try (exfalso; first | omega | with_reducible exact absurd rfl hb')))))
    all_goals try (refine EW.nm ?_)
    all_goals try ((first | refine EW.eRegL (id := 13) ?_ | refine EW.eReg (id := 13) ?_); refine EW.eMove ?_; refine EW.eMove ?_; refine EW.eMove ?_; refine EW.eAdd ?_; refine EW.eQuo ?_; refine EW.eMove ?_; refine EW.eMove ?_; refine EW.eMove ?_; refine EW.eAdd ?_; refine EW.eQuo ?_; (first | refine EW.eIndexAddrS (z := 1) ?_ | refine EW.eIndexAddrG (z := 1) ?_); refine EW.eLoad1 ?_; refine EW.eMove ?_; refine EW.eMove ?_; refine EW.eAdd ?_; refine EW.eRem ?_; refine EW.eConv ?_; refine EW.eShl ?_; refine EW.eXor ?_; (first | refine EW.eIndexAddrS (z := 1) ?_ | refine EW.eIndexAddrG (z := 1) ?_); (first | refine EW.eStoreW (k := 1) ?_ | refine EW.eStore (k := 1) ?_); refine EW.eEnd ?_; (try refine EW.nm ?_))
    all_goals try ((first | refine EW.eRegL (id := 11) ?_ | refine EW.eReg (id := 11) ?_); refine EW.eMove ?_; refine EW.eAdd ?_; refine EW.eAssign ?_; refine EW.eEnd ?_; (try refine EW.nm ?_)))
  all_goals try ((first | refine EW.eRegL (id := 14) ?_ | refine EW.eReg (id := 14) ?_); refine EW.eMove ?_; fail "no contract of mullion/rle.Decode"; refine EW.eMove ?_; (first | refine EW.eExtC ?_ | refine EW.eExtA ?_); (first | refine EW.eExtC ?_ | refine EW.eExtA ?_); refine EW.eAssign ?_; refine EW.eAssign ?_; refine EW.eEnd ?_; (try refine EW.nm ?_))
  all_goals try ((first | refine EW.eRegL (id := 15) ?_ | refine EW.eReg (id := 15) ?_); refine EW.eMove ?_; (first | refine EW.eTextS ?_ | refine EW.eTextG ?_ | refine EW.eTextN ?_); refine EW.eMove ?_; (first | refine EW.eTextS ?_ | refine EW.eTextG ?_ | refine EW.eTextN ?_); refine EW.eStrEq ?_; refine EW.eEnd ?_; (try refine EW.nm ?_))
  all_goals try (first | refine EW.eYes (x := Operand.tmp 98) ?_ | refine EW.eNo (x := Operand.tmp 98) ?_ | (refine EW.eCond (x := Operand.tmp 98) ?_ ?_ <;> (intro hb hb'; (try dsimp only at hb'); (try (exfalso; first | omega | with_reducible exact absurd rfl hb')))))
  all_goals try (refine EW.nm ?_)
  all_goals try ((first | refine EW.eRegL (id := 16) ?_ | refine EW.eReg (id := 16) ?_); refine EW.eMove ?_; refine EW.eMove ?_)
  all_goals try (refine EW.eGuard (j := 1) (o := ⟨some 101, _, _, _, _, _⟩) ?_ ?_ <;> (intro hb hb'; (try dsimp only at hb'); (try (exfalso; first | omega | with_reducible exact absurd rfl hb'))))
  all_goals try ((first | refine EW.eSkipT (j := 1) ?_ | refine EW.eSkipU (j := 1) ?_ | refine EW.eMove ?_); (first | refine EW.eSkipT (j := 1) ?_ | refine EW.eSkipU (j := 1) ?_ | refine EW.eEql ?_); (first | refine EW.ePickT ?_ | refine EW.ePickF ?_); refine EW.eMove ?_)
  all_goals try (refine EW.eGuard (j := 5) (o := ⟨some 105, _, _, _, _, _⟩) ?_ ?_ <;> (intro hb hb'; (try dsimp only at hb'); (try (exfalso; first | omega | with_reducible exact absurd rfl hb'))))
  all_goals try ((first | refine EW.eSkipT (j := 5) ?_ | refine EW.eSkipU (j := 5) ?_ | refine EW.eMove ?_); (first | refine EW.eSkipT (j := 5) ?_ | refine EW.eSkipU (j := 5) ?_ | refine EW.eMove ?_); (first | refine EW.eSkipT (j := 5) ?_ | refine EW.eSkipU (j := 5) ?_ | fail "no contract of mullion/mullionref13.Same"); (first | refine EW.ePickT ?_ | refine EW.ePickF ?_); refine EW.eAssign ?_; refine EW.eEnd ?_; (try refine EW.nm ?_))
  all_goals try (with_reducible refine EW.parkK ?_)
  all_goals try ((first | refine EW.eRegL (id := 17) ?_ | refine EW.eReg (id := 17) ?_); refine EW.eMove ?_; refine EW.eMove ?_)
  all_goals try (refine EW.eGuard (j := 1) (o := ⟨some 111, _, _, _, _, _⟩) ?_ ?_ <;> (intro hb hb'; (try dsimp only at hb'); (try (exfalso; first | omega | with_reducible exact absurd rfl hb'))))
  all_goals try ((first | refine EW.eSkipT (j := 1) ?_ | refine EW.eSkipU (j := 1) ?_ | refine EW.eMove ?_); (first | refine EW.eSkipT (j := 1) ?_ | refine EW.eSkipU (j := 1) ?_ | refine EW.eEql ?_); (first | refine EW.ePickT ?_ | refine EW.ePickF ?_); refine EW.eMove ?_)
  all_goals try (refine EW.eGuard (j := 5) (o := ⟨some 115, _, _, _, _, _⟩) ?_ ?_ <;> (intro hb hb'; (try dsimp only at hb'); (try (exfalso; first | omega | with_reducible exact absurd rfl hb'))))
  all_goals try ((first | refine EW.eSkipT (j := 5) ?_ | refine EW.eSkipU (j := 5) ?_ | refine EW.eMove ?_); (first | refine EW.eSkipT (j := 5) ?_ | refine EW.eSkipU (j := 5) ?_ | refine EW.eLenS ?_ | refine EW.eLenG ?_ | refine EW.eLenN ?_); (first | refine EW.eSkipT (j := 5) ?_ | refine EW.eSkipU (j := 5) ?_ | refine EW.eEql ?_); (first | refine EW.ePickT ?_ | refine EW.ePickF ?_); refine EW.eAssign ?_; refine EW.eEnd ?_; (try refine EW.nm ?_))
  all_goals try (with_reducible refine EW.parkK ?_)
  all_goals try (refine EW.Park.mk ?_)
  all_goals (refine EW.eLeaveN [] hR (by first | exact .inl rfl | exact .inr rfl) (by rfl) (by rfl) ?_ ?_ rfl rfl (by (((repeat (first | exact EW.NL.emp | (refine EW.NL.upd ?_ rfl) | refine EW.NL.drp ?_ | refine EW.NL.hp ?_ | refine EW.NL.argS ?_ | refine EW.NL.mix ?_)); (first | done | fail)))) rfl rfl; rotate_left 1; (· ((repeat (first | exact EW.atE.nil | refine EW.atE.lt rfl ?_ | refine EW.atE.lf ?_ | refine EW.atE.b rfl EW.SameB.refl ?_ | (refine EW.atE.b rfl ?_ ?_; rotate_left 1))))))
  all_goals rfl
theorem spoilt_bad (l : List Px) (at_ mask : Int) (h : l.length ≤ 500) (hs : ¬ spOk l) : RS_ l at_ mask := by
  have hE1 := ienc_bad l (by omega) hs
  clear hs
  refine EW.ctEnter [10, 20, 30, 40, 50, 60, 70, 80, 90, 100, 110, 120, 130, 140, 150, 160, 170, 180, 190, 200, 210, 220, 230, 240, 250, 260, 270, 280, 290, 300, 310, 320, 330, 340, 350, 360, 370, 380, 390, 400, 410, 420, 430, 440, 450, 460, 470, 480, 490, 500, 510, 520, 530, 540, 550, 560, 570, 580, 590, 600] Try.func6 rfl Try.ntmps6 rfl (by (((repeat (first | exact EW.NL.emp | (refine EW.NL.upd ?_ rfl) | refine EW.NL.drp ?_ | refine EW.NL.hp ?_ | refine EW.NL.argS ?_ | refine EW.NL.mix ?_)); (first | done | fail)))) ?_; intro w0 tch ini R hR
  all_goals try (refine EW.nm ?_)
  all_goals try ((first | refine EW.eRegL (id := 0) ?_ | refine EW.eReg (id := 0) ?_); refine EW.eAssign ?_; refine EW.eEnd ?_; (try refine EW.nm ?_))
  all_goals try ((first | refine EW.eRegL (id := 1) ?_ | refine EW.eReg (id := 1) ?_); refine EW.eCall Try.call26 (fun w => ralive w) ?_; refine EW.eAssign ?_; refine EW.eEnd ?_; (try refine EW.nm ?_))
  all_goals try ((first | refine EW.eRegL (id := 2) ?_ | refine EW.eReg (id := 2) ?_); refine EW.eMove ?_; (first | refine EW.eLenS ?_ | refine EW.eLenG ?_ | refine EW.eLenN ?_); refine EW.eGtr ?_; refine EW.eMove ?_)
  all_goals try (refine EW.eGuard (j := 3) (o := ⟨some 20, _, _, _, _, _⟩) ?_ ?_ <;> (intro hb hb'; (try dsimp only at hb'); (try (exfalso; first | omega | with_reducible exact absurd rfl hb'))))
  all_goals try ((first | refine EW.eSkipF (j := 3) ?_ | refine EW.eSkipU (j := 3) ?_ | refine EW.eMove ?_); (first | refine EW.eSkipF (j := 3) ?_ | refine EW.eSkipU (j := 3) ?_ | refine EW.eNot ?_); (first | refine EW.ePickT ?_ | refine EW.ePickF ?_); refine EW.eEnd ?_; (try refine EW.nm ?_))
  all_goals try (first | refine EW.eYes (x := Operand.tmp 22) ?_ | refine EW.eNo (x := Operand.tmp 22) ?_ | (refine EW.eCond (x := Operand.tmp 22) ?_ ?_ <;> (intro hb hb'; (try dsimp only at hb'); (try (exfalso; first | omega | with_reducible exact absurd rfl hb')))))
  all_goals try (refine EW.nm ?_)
  all_goals try ((first | refine EW.eRegL (id := 3) ?_ | refine EW.eReg (id := 3) ?_); refine EW.eMove ?_; refine EW.eAssign ?_; refine EW.eEnd ?_; (try refine EW.nm ?_))
  all_goals try (with_reducible refine EW.parkK ?_)
  all_goals try ((first | refine EW.eRegL (id := 4) ?_ | refine EW.eReg (id := 4) ?_); refine EW.eMove ?_; refine EW.eCallN [0] Try.call13 (hE1) ?_; refine EW.eMove ?_; (first | refine EW.eExtC ?_ | refine EW.eExtA ?_); (first | refine EW.eExtC ?_ | refine EW.eExtA ?_); refine EW.eAssign ?_; refine EW.eAssign ?_; refine EW.eEnd ?_; (try refine EW.nm ?_))
  all_goals try ((first | refine EW.eRegL (id := 5) ?_ | refine EW.eReg (id := 5) ?_); refine EW.eMove ?_; refine EW.eNeq ?_; refine EW.eMove ?_)
  all_goals try (refine EW.eGuard (j := 2) (o := ⟨some 32, _, _, _, _, _⟩) ?_ ?_ <;> (intro hb hb'; (try dsimp only at hb'); (try (exfalso; first | omega | with_reducible exact absurd rfl hb'))))
  all_goals try ((first | refine EW.eSkipF (j := 2) ?_ | refine EW.eSkipU (j := 2) ?_ | refine EW.eMove ?_); (first | refine EW.eSkipF (j := 2) ?_ | refine EW.eSkipU (j := 2) ?_ | refine EW.eLenS ?_ | refine EW.eLenG ?_ | refine EW.eLenN ?_); (first | refine EW.eSkipF (j := 2) ?_ | refine EW.eSkipU (j := 2) ?_ | refine EW.eLss ?_); (first | refine EW.ePickT ?_ | refine EW.ePickF ?_); refine EW.eEnd ?_; (try refine EW.nm ?_))
  all_goals try (first | refine EW.eYes (x := Operand.tmp 35) ?_ | refine EW.eNo (x := Operand.tmp 35) ?_ | (refine EW.eCond (x := Operand.tmp 35) ?_ ?_ <;> (intro hb hb'; (try dsimp only at hb'); (try (exfalso; first | omega | with_reducible exact absurd rfl hb')))))
  all_goals try (refine EW.nm ?_)
  all_goals try ((first | refine EW.eRegL (id := 6) ?_ | refine EW.eReg (id := 6) ?_); refine EW.eMove ?_; refine EW.eMove ?_)
  all_goals try (refine EW.eGuard (j := 1) (o := ⟨some 38, _, _, _, _, _⟩) ?_ ?_ <;> (intro hb hb'; (try dsimp only at hb'); (try (exfalso; first | omega | with_reducible exact absurd rfl hb'))))
  all_goals try ((first | refine EW.eSkipT (j := 1) ?_ | refine EW.eSkipU (j := 1) ?_ | refine EW.eMove ?_); (first | refine EW.eSkipT (j := 1) ?_ | refine EW.eSkipU (j := 1) ?_ | refine EW.eNeq ?_); (first | refine EW.ePickT ?_ | refine EW.ePickF ?_); refine EW.eAssign ?_; refine EW.eEnd ?_; (try refine EW.nm ?_))
  all_goals try (with_reducible refine EW.parkK ?_)
  all_goals try ((first | refine EW.eRegL (id := 7) ?_ | refine EW.eReg (id := 7) ?_); refine EW.eBuildSlice (k := 1) ?_; refine EW.eMove ?_; (first | refine EW.eAppGW (z := 1) ?_ | refine EW.eAppG (z := 1) ?_ | refine EW.eAppZW (z := 1) ?_ | refine EW.eAppZ (z := 1) ?_ | refine EW.eAppSW (z := 1) ?_ | refine EW.eAppS (z := 1) ?_ | refine EW.eAppNW (z := 1) ?_ | refine EW.eAppN (z := 1) ?_); refine EW.eAssign ?_; refine EW.eEnd ?_; (try refine EW.nm ?_))
  all_goals try ((first | refine EW.eRegL (id := 8) ?_ | refine EW.eReg (id := 8) ?_); refine EW.eMove ?_; refine EW.eConv ?_; refine EW.eMove ?_; (first | refine EW.eLenS ?_ | refine EW.eLenG ?_ | refine EW.eLenN ?_); refine EW.eMul ?_; refine EW.eRem ?_; refine EW.eAssign ?_; refine EW.eEnd ?_; (try refine EW.nm ?_))
  all_goals try ((first | refine EW.eRegL (id := 9) ?_ | refine EW.eReg (id := 9) ?_); refine EW.eAssign ?_; refine EW.eEnd ?_; (try refine EW.nm ?_))
  all_goals try (refine EW.eUnroll 6 ?_)
  all_goals try (refine EW.nm ?_)
  iterate 6 (
    all_goals try ((first | refine EW.eRegL (id := 10) ?_ | refine EW.eReg (id := 10) ?_); refine EW.eMove ?_; refine EW.eLss ?_; refine EW.eMove ?_)
    all_goals try (refine EW.eGuard (j := 2) (o := ⟨some 53, _, _, _, _, _⟩) ?_ ?_ <;> (intro hb hb'; (try dsimp only at hb'); (try (exfalso; first | omega | with_reducible exact absurd rfl hb'))))
    all_goals try ((first | refine EW.eSkipT (j := 2) ?_ | refine EW.eSkipU (j := 2) ?_ | refine EW.eMove ?_); (first | refine EW.eSkipT (j := 2) ?_ | refine EW.eSkipU (j := 2) ?_ | refine EW.eMove ?_); (first | refine EW.eSkipT (j := 2) ?_ | refine EW.eSkipU (j := 2) ?_ | refine EW.eAdd ?_); (first | refine EW.eSkipT (j := 2) ?_ | refine EW.eSkipU (j := 2) ?_ | refine EW.eMove ?_); (first | refine EW.eSkipT (j := 2) ?_ | refine EW.eSkipU (j := 2) ?_ | refine EW.eLenS ?_ | refine EW.eLenG ?_ | refine EW.eLenN ?_); (first | refine EW.eSkipT (j := 2) ?_ | refine EW.eSkipU (j := 2) ?_ | refine EW.eMul ?_); (first | refine EW.eSkipT (j := 2) ?_ | refine EW.eSkipU (j := 2) ?_ | refine EW.eLss ?_); (first | refine EW.ePickT ?_ | refine EW.ePickF ?_); refine EW.eEnd ?_; (try refine EW.nm ?_))
    all_goals try (first | refine EW.eYes (x := Operand.tmp 60) ?_ | refine EW.eNo (x := Operand.tmp 60) ?_ | (refine EW.eCond (x := Operand.tmp 60) ?_ ?_ <;> (intro hb hb'; (try dsimp only at hb'); (try (exfalso; first | omega | with_reducible exact absurd rfl hb')))))
    all_goals try (refine EW.nm ?_)
    all_goals try ((first | refine EW.eRegL (id := 12) ?_ | refine EW.eReg (id := 12) ?_); refine EW.eMove ?_; refine EW.eMove ?_; refine EW.eConv ?_; refine EW.eShr ?_; refine EW.eRem ?_; refine EW.eEql ?_; refine EW.eEnd ?_; (try refine EW.nm ?_))
    all_goals try (first | refine EW.eYes (x := Operand.tmp 68) ?_ | refine EW.eNo (x := Operand.tmp 68) ?_ | (refine EW.eCond (x := Operand.tmp 68) ?_ ?_ <;> (intro hb hb'; (try dsimp only at hb'); (try (exfalso; first | omega | with_reducible exact absurd rfl hb')))))
    all_goals try (refine EW.nm ?_)
    all_goals try ((first | refine EW.eRegL (id := 13) ?_ | refine EW.eReg (id := 13) ?_); refine EW.eMove ?_; refine EW.eMove ?_; refine EW.eMove ?_; refine EW.eAdd ?_; refine EW.eQuo ?_; refine EW.eMove ?_; refine EW.eMove ?_; refine EW.eMove ?_; refine EW.eAdd ?_; refine EW.eQuo ?_; (first | refine EW.eIndexAddrS (z := 1) ?_ | refine EW.eIndexAddrG (z := 1) ?_); refine EW.eLoad1 ?_; refine EW.eMove ?_; refine EW.eMove ?_; refine EW.eAdd ?_; refine EW.eRem ?_; refine EW.eConv ?_; refine EW.eShl ?_; refine EW.eXor ?_; (first | refine EW.eIndexAddrS (z := 1) ?_ | refine EW.eIndexAddrG (z := 1) ?_); (first | refine EW.eStoreW (k := 1) ?_ | refine EW.eStore (k := 1) ?_); refine EW.eEnd ?_; (try refine EW.nm ?_))
    all_goals try ((first | refine EW.eRegL (id := 11) ?_ | refine EW.eReg (id := 11) ?_); refine EW.eMove ?_; refine EW.eAdd ?_; refine EW.eAssign ?_; refine EW.eEnd ?_; (try refine EW.nm ?_)))
  all_goals try ((first | refine EW.eRegL (id := 14) ?_ | refine EW.eReg (id := 14) ?_); refine EW.eMove ?_; fail "no contract of mullion/rle.Decode"; refine EW.eMove ?_; (first | refine EW.eExtC ?_ | refine EW.eExtA ?_); (first | refine EW.eExtC ?_ | refine EW.eExtA ?_); refine EW.eAssign ?_; refine EW.eAssign ?_; refine EW.eEnd ?_; (try refine EW.nm ?_))
  all_goals try ((first | refine EW.eRegL (id := 15) ?_ | refine EW.eReg (id := 15) ?_); refine EW.eMove ?_; (first | refine EW.eTextS ?_ | refine EW.eTextG ?_ | refine EW.eTextN ?_); refine EW.eMove ?_; (first | refine EW.eTextS ?_ | refine EW.eTextG ?_ | refine EW.eTextN ?_); refine EW.eStrEq ?_; refine EW.eEnd ?_; (try refine EW.nm ?_))
  all_goals try (first | refine EW.eYes (x := Operand.tmp 98) ?_ | refine EW.eNo (x := Operand.tmp 98) ?_ | (refine EW.eCond (x := Operand.tmp 98) ?_ ?_ <;> (intro hb hb'; (try dsimp only at hb'); (try (exfalso; first | omega | with_reducible exact absurd rfl hb')))))
  all_goals try (refine EW.nm ?_)
  all_goals try ((first | refine EW.eRegL (id := 16) ?_ | refine EW.eReg (id := 16) ?_); refine EW.eMove ?_; refine EW.eMove ?_)
  all_goals try (refine EW.eGuard (j := 1) (o := ⟨some 101, _, _, _, _, _⟩) ?_ ?_ <;> (intro hb hb'; (try dsimp only at hb'); (try (exfalso; first | omega | with_reducible exact absurd rfl hb'))))
  all_goals try ((first | refine EW.eSkipT (j := 1) ?_ | refine EW.eSkipU (j := 1) ?_ | refine EW.eMove ?_); (first | refine EW.eSkipT (j := 1) ?_ | refine EW.eSkipU (j := 1) ?_ | refine EW.eEql ?_); (first | refine EW.ePickT ?_ | refine EW.ePickF ?_); refine EW.eMove ?_)
  all_goals try (refine EW.eGuard (j := 5) (o := ⟨some 105, _, _, _, _, _⟩) ?_ ?_ <;> (intro hb hb'; (try dsimp only at hb'); (try (exfalso; first | omega | with_reducible exact absurd rfl hb'))))
  all_goals try ((first | refine EW.eSkipT (j := 5) ?_ | refine EW.eSkipU (j := 5) ?_ | refine EW.eMove ?_); (first | refine EW.eSkipT (j := 5) ?_ | refine EW.eSkipU (j := 5) ?_ | refine EW.eMove ?_); (first | refine EW.eSkipT (j := 5) ?_ | refine EW.eSkipU (j := 5) ?_ | fail "no contract of mullion/mullionref13.Same"); (first | refine EW.ePickT ?_ | refine EW.ePickF ?_); refine EW.eAssign ?_; refine EW.eEnd ?_; (try refine EW.nm ?_))
  all_goals try (with_reducible refine EW.parkK ?_)
  all_goals try ((first | refine EW.eRegL (id := 17) ?_ | refine EW.eReg (id := 17) ?_); refine EW.eMove ?_; refine EW.eMove ?_)
  all_goals try (refine EW.eGuard (j := 1) (o := ⟨some 111, _, _, _, _, _⟩) ?_ ?_ <;> (intro hb hb'; (try dsimp only at hb'); (try (exfalso; first | omega | with_reducible exact absurd rfl hb'))))
  all_goals try ((first | refine EW.eSkipT (j := 1) ?_ | refine EW.eSkipU (j := 1) ?_ | refine EW.eMove ?_); (first | refine EW.eSkipT (j := 1) ?_ | refine EW.eSkipU (j := 1) ?_ | refine EW.eEql ?_); (first | refine EW.ePickT ?_ | refine EW.ePickF ?_); refine EW.eMove ?_)
  all_goals try (refine EW.eGuard (j := 5) (o := ⟨some 115, _, _, _, _, _⟩) ?_ ?_ <;> (intro hb hb'; (try dsimp only at hb'); (try (exfalso; first | omega | with_reducible exact absurd rfl hb'))))
  all_goals try ((first | refine EW.eSkipT (j := 5) ?_ | refine EW.eSkipU (j := 5) ?_ | refine EW.eMove ?_); (first | refine EW.eSkipT (j := 5) ?_ | refine EW.eSkipU (j := 5) ?_ | refine EW.eLenS ?_ | refine EW.eLenG ?_ | refine EW.eLenN ?_); (first | refine EW.eSkipT (j := 5) ?_ | refine EW.eSkipU (j := 5) ?_ | refine EW.eEql ?_); (first | refine EW.ePickT ?_ | refine EW.ePickF ?_); refine EW.eAssign ?_; refine EW.eEnd ?_; (try refine EW.nm ?_))
  all_goals try (with_reducible refine EW.parkK ?_)
  all_goals try (refine EW.Park.mk ?_)
  all_goals (refine EW.eLeaveN [] hR (by first | exact .inl rfl | exact .inr rfl) (by rfl) (by rfl) ?_ ?_ rfl rfl (by (((repeat (first | exact EW.NL.emp | (refine EW.NL.upd ?_ rfl) | refine EW.NL.drp ?_ | refine EW.NL.hp ?_ | refine EW.NL.argS ?_ | refine EW.NL.mix ?_)); (first | done | fail)))) rfl rfl; rotate_left 1; (· ((repeat (first | exact EW.atE.nil | refine EW.atE.lt rfl ?_ | refine EW.atE.lf ?_ | refine EW.atE.b rfl EW.SameB.refl ?_ | (refine EW.atE.b rfl ?_ ?_; rotate_left 1))))))
  all_goals rfl
set_option maxHeartbeats 2000000 in
theorem spoilt_in (l : List Px) (at_ : Nat) (mask : Int) (h : l.length ≤ 500) (hg : Gd l) (ha : at_ < 65536) (hm : 0 ≤ mask ∧ mask < 4294967296) : RS_ l at_ mask := by
  have hE1 := ienc_y l hg
  have hle := rleB_le hg
  have hby := rleB_by l
  have hD0 := idec_y hg
  have hsl := seal_len (rleB l)
  have hne : 0 < (rleB l).length := by
    rw [rleB, List.length_append]
    have := List.length_pos_iff.2 (formN_ne l.length)
    omega
  have hS := same13_y true false l (by omega)
  have hyb := seal_by hby
  generalize rleB l = q at *
  obtain ⟨b, hb9⟩ : ∃ b, sealL q = b := ⟨_, rfl⟩
  rw [hb9] at hE1 hD0 hsl hyb
  obtain ⟨f, hf9⟩ : ∃ f, at_ % (8 * b.length) = f := ⟨_, rfl⟩
  have hf8 : f < 8 * b.length := by rw [← hf9]; exact Nat.mod_lt _ (by omega)
  have hrm : Rm (at_ : Int) (8 * (b.length : Int)) (f : Int) := by
    have := rm_nat at_ (8 * b.length)
    rw [hf9] at this
    rw [show (8 : Int) * (b.length : Int) = ((8 * b.length : Nat) : Int) by omega]; exact this
  have hw0 := within_0 hyb f
  refine EW.ctEnter [10, 20, 30, 40, 50, 60, 70, 80, 90, 100, 110, 120, 130, 140, 150, 160, 170, 180, 190, 200, 210, 220, 230, 240, 250, 260, 270, 280, 290, 300, 310, 320, 330, 340, 350, 360, 370, 380, 390, 400, 410, 420, 430, 440, 450, 460, 470, 480, 490, 500, 510, 520, 530, 540, 550, 560, 570, 580, 590, 600] Try.func6 rfl Try.ntmps6 rfl (by (((repeat (first | exact EW.NL.emp | (refine EW.NL.upd ?_ rfl) | refine EW.NL.drp ?_ | refine EW.NL.hp ?_ | refine EW.NL.argS ?_ | refine EW.NL.mix ?_)); (first | done | fail)))) ?_; intro w0 tch ini R hR
  all_goals try (refine EW.nm ?_)
  all_goals try ((first | refine EW.eRegL (id := 0) ?_ | refine EW.eReg (id := 0) ?_); refine EW.eAssign ?_; refine EW.eEnd ?_; (try refine EW.nm ?_))
  all_goals try ((first | refine EW.eRegL (id := 1) ?_ | refine EW.eReg (id := 1) ?_); refine EW.eCall Try.call26 (fun w => ralive w) ?_; refine EW.eAssign ?_; refine EW.eEnd ?_; (try refine EW.nm ?_))
  all_goals try ((first | refine EW.eRegL (id := 2) ?_ | refine EW.eReg (id := 2) ?_); refine EW.eMove ?_; (first | refine EW.eLenS ?_ | refine EW.eLenG ?_ | refine EW.eLenN ?_); refine EW.eGtr ?_; refine EW.eMove ?_)
  all_goals try (refine EW.eGuard (j := 3) (o := ⟨some 20, _, _, _, _, _⟩) ?_ ?_ <;> (intro hb hb'; (try dsimp only at hb'); (try (exfalso; first | omega | with_reducible exact absurd rfl hb'))))
  all_goals try ((first | refine EW.eSkipF (j := 3) ?_ | refine EW.eSkipU (j := 3) ?_ | refine EW.eMove ?_); (first | refine EW.eSkipF (j := 3) ?_ | refine EW.eSkipU (j := 3) ?_ | refine EW.eNot ?_); (first | refine EW.ePickT ?_ | refine EW.ePickF ?_); refine EW.eEnd ?_; (try refine EW.nm ?_))
  all_goals try (first | refine EW.eYes (x := Operand.tmp 22) ?_ | refine EW.eNo (x := Operand.tmp 22) ?_ | (refine EW.eCond (x := Operand.tmp 22) ?_ ?_ <;> (intro hb hb'; (try dsimp only at hb'); (try (exfalso; first | omega | with_reducible exact absurd rfl hb')))))
  all_goals try (refine EW.nm ?_)
  all_goals try ((first | refine EW.eRegL (id := 3) ?_ | refine EW.eReg (id := 3) ?_); refine EW.eMove ?_; refine EW.eAssign ?_; refine EW.eEnd ?_; (try refine EW.nm ?_))
  all_goals try (with_reducible refine EW.parkK ?_)
  all_goals try ((first | refine EW.eRegL (id := 4) ?_ | refine EW.eReg (id := 4) ?_); refine EW.eMove ?_; refine EW.eCallN [0] Try.call13 (hE1) ?_; refine EW.eMove ?_; (first | refine EW.eExtC ?_ | refine EW.eExtA ?_); (first | refine EW.eExtC ?_ | refine EW.eExtA ?_); refine EW.eAssign ?_; refine EW.eAssign ?_; refine EW.eEnd ?_; (try refine EW.nm ?_))
  all_goals try ((first | refine EW.eRegL (id := 5) ?_ | refine EW.eReg (id := 5) ?_); refine EW.eMove ?_; refine EW.eNeq ?_; refine EW.eMove ?_)
  all_goals try (refine EW.eGuard (j := 2) (o := ⟨some 32, _, _, _, _, _⟩) ?_ ?_ <;> (intro hb hb'; (try dsimp only at hb'); (try (exfalso; first | omega | with_reducible exact absurd rfl hb'))))
  all_goals try ((first | refine EW.eSkipF (j := 2) ?_ | refine EW.eSkipU (j := 2) ?_ | refine EW.eMove ?_); (first | refine EW.eSkipF (j := 2) ?_ | refine EW.eSkipU (j := 2) ?_ | refine EW.eLenS ?_ | refine EW.eLenG ?_ | refine EW.eLenN ?_); (first | refine EW.eSkipF (j := 2) ?_ | refine EW.eSkipU (j := 2) ?_ | refine EW.eLss ?_); (first | refine EW.ePickT ?_ | refine EW.ePickF ?_); refine EW.eEnd ?_; (try refine EW.nm ?_))
  all_goals try (first | refine EW.eYes (x := Operand.tmp 35) ?_ | refine EW.eNo (x := Operand.tmp 35) ?_ | (refine EW.eCond (x := Operand.tmp 35) ?_ ?_ <;> (intro hb hb'; (try dsimp only at hb'); (try (exfalso; first | omega | with_reducible exact absurd rfl hb')))))
  all_goals try (refine EW.nm ?_)
  all_goals try ((first | refine EW.eRegL (id := 6) ?_ | refine EW.eReg (id := 6) ?_); refine EW.eMove ?_; refine EW.eMove ?_)
  all_goals try (refine EW.eGuard (j := 1) (o := ⟨some 38, _, _, _, _, _⟩) ?_ ?_ <;> (intro hb hb'; (try dsimp only at hb'); (try (exfalso; first | omega | with_reducible exact absurd rfl hb'))))
  all_goals try ((first | refine EW.eSkipT (j := 1) ?_ | refine EW.eSkipU (j := 1) ?_ | refine EW.eMove ?_); (first | refine EW.eSkipT (j := 1) ?_ | refine EW.eSkipU (j := 1) ?_ | refine EW.eNeq ?_); (first | refine EW.ePickT ?_ | refine EW.ePickF ?_); refine EW.eAssign ?_; refine EW.eEnd ?_; (try refine EW.nm ?_))
  all_goals try (with_reducible refine EW.parkK ?_)
  all_goals try ((first | refine EW.eRegL (id := 7) ?_ | refine EW.eReg (id := 7) ?_); refine EW.eBuildSlice (k := 1) ?_; refine EW.eMove ?_; (first | refine EW.eAppGW (z := 1) ?_ | refine EW.eAppG (z := 1) ?_ | refine EW.eAppZW (z := 1) ?_ | refine EW.eAppZ (z := 1) ?_ | refine EW.eAppSW (z := 1) ?_ | refine EW.eAppS (z := 1) ?_ | refine EW.eAppNW (z := 1) ?_ | refine EW.eAppN (z := 1) ?_); refine EW.eAssign ?_; refine EW.eEnd ?_; (try refine EW.nm ?_))
  all_goals try ((first | refine EW.eRegL (id := 8) ?_ | refine EW.eReg (id := 8) ?_); refine EW.eMove ?_; refine EW.eConv ?_; refine EW.eMove ?_; (first | refine EW.eLenS ?_ | refine EW.eLenG ?_ | refine EW.eLenN ?_); refine EW.eMul ?_; refine EW.eRem ?_ (hr' := hrm); refine EW.eAssign ?_; refine EW.eEnd ?_; (try refine EW.nm ?_))
  all_goals try ((first | refine EW.eRegL (id := 9) ?_ | refine EW.eReg (id := 9) ?_); refine EW.eAssign ?_; refine EW.eEnd ?_; (try refine EW.nm ?_))
  all_goals first | (fail_if_success (refine EW.eUnroll 1 ?_)) | (refine EW.eLoopD [1000030, 12, 50, 51, 52, 53, 54, 55, 56, 57, 58, 59, 60, 61, 62, 63, 64, 65, 66, 67, 68, 69, 70, 71, 72, 73, 74, 75, 76, 77, 78, 79, 80, 81, 82, 83, 84, 85, 86, 87, 88] 51 (fun y : {y : Nat × List Int // y.1 ≤ 32 ∧ Within b f y.1 y.2} => [(.t 12, .v (.c (.v (.int .i64 y.1.1)))), (.b 30, .b (.w true (nums .u8 y.1.2)))]) (fun y => 32 - y.1.1) (⟨(0, b), by omega, hw0⟩) (by ((repeat (first | exact EW.subW.nil | refine EW.subW.cons rfl ?_ | refine EW.subW.conv rfl ?_)); (first | done | fail))) ?_; rintro hcl10 ⟨⟨i, c⟩, hi, hw⟩; (try dsimp only))
  all_goals try (refine EW.nm ?_)
  all_goals (try ((try dsimp only at hi hw); have hwa : Wr .i64 ((f : Int) + (i : Int)) ((f + i : Nat) : Int) := (by rw [show (f : Int) + (i : Int) = ((f + i : Nat) : Int) by omega]; exact Wr.i64 (by omega))))
  all_goals try ((first | refine EW.eRegL (id := 10) ?_ | refine EW.eReg (id := 10) ?_); refine EW.eMove ?_; refine EW.eLss ?_; refine EW.eMove ?_)
  all_goals try (refine EW.eGuard (j := 2) (o := ⟨some 53, _, _, _, _, _⟩) ?_ ?_ <;> (intro hb hb'; (try dsimp only at hb'); (try (exfalso; first | omega | with_reducible exact absurd rfl hb'))))
  all_goals try ((first | refine EW.eSkipT (j := 2) ?_ | refine EW.eSkipU (j := 2) ?_ | refine EW.eMove ?_); (first | refine EW.eSkipT (j := 2) ?_ | refine EW.eSkipU (j := 2) ?_ | refine EW.eMove ?_); (first | refine EW.eSkipT (j := 2) ?_ | refine EW.eSkipU (j := 2) ?_ | refine EW.eAdd ?_ (hr' := hwa)); (first | refine EW.eSkipT (j := 2) ?_ | refine EW.eSkipU (j := 2) ?_ | refine EW.eMove ?_); (first | refine EW.eSkipT (j := 2) ?_ | refine EW.eSkipU (j := 2) ?_ | refine EW.eLenS ?_ | refine EW.eLenG ?_ | refine EW.eLenN ?_); (first | refine EW.eSkipT (j := 2) ?_ | refine EW.eSkipU (j := 2) ?_ | refine EW.eMul ?_); (first | refine EW.eSkipT (j := 2) ?_ | refine EW.eSkipU (j := 2) ?_ | refine EW.eLss ?_); (first | refine EW.ePickT ?_ | refine EW.ePickF ?_); refine EW.eEnd ?_; (try refine EW.nm ?_))
  all_goals try (first | refine EW.eYes (x := Operand.tmp 60) ?_ | refine EW.eNo (x := Operand.tmp 60) ?_ | (refine EW.eCond (x := Operand.tmp 60) ?_ ?_ <;> (intro hb hb'; (try dsimp only at hb'); (try (exfalso; first | omega | with_reducible exact absurd rfl hb')))))
  all_goals try (refine EW.nm ?_)
  all_goals (try ((try dsimp only at hi hw); have hfi : f + i < 8 * b.length := (by omega); have hi32 : i < 32 := (by omega); have hs1 := sh32 hi32; have hlc := hw.2.1))
  all_goals try ((first | refine EW.eRegL (id := 12) ?_ | refine EW.eReg (id := 12) ?_); refine EW.eMove ?_; refine EW.eMove ?_; refine EW.eConv ?_; refine EW.eShr ?_ (hm := hs1) (hr' := ⟨rfl⟩); refine EW.eRem ?_ (hr' := ⟨rfl⟩); refine EW.eEql ?_; refine EW.eEnd ?_; (try refine EW.nm ?_))
  all_goals try (first | refine EW.eYes (x := Operand.tmp 68) ?_ | refine EW.eNo (x := Operand.tmp 68) ?_ | (refine EW.eCond (x := Operand.tmp 68) ?_ ?_ <;> (intro hb hb'; (try dsimp only at hb'); (try (exfalso; first | omega | with_reducible exact absurd rfl hb')))))
  all_goals try (refine EW.nm ?_)
  all_goals (try (have hyes : _ = true := hb; have hfi2 := hfi; obtain ⟨x, j, r, hj, hr, hx, hq8, hr8, hs2, hsw, hbx, hnx⟩ := turn_facts hw hfi2))
  all_goals try ((first | refine EW.eRegL (id := 13) ?_ | refine EW.eReg (id := 13) ?_); refine EW.eMove ?_; refine EW.eMove ?_; refine EW.eMove ?_; refine EW.eAdd ?_ (hr' := hwa); refine EW.eQuo ?_ (hr' := hq8); refine EW.eMove ?_; refine EW.eMove ?_; refine EW.eMove ?_; refine EW.eAdd ?_ (hr' := hwa); refine EW.eQuo ?_ (hr' := hq8); (first | refine EW.eIndexAddrS (z := 1) ?_ | refine EW.eIndexAddrG (z := 1) ?_); refine EW.eLoad1 ?_; refine EW.eMove ?_; refine EW.eMove ?_; refine EW.eAdd ?_ (hr' := hwa); refine EW.eRem ?_ (hr' := hr8); refine EW.eConv ?_; refine EW.eShl ?_ (hm := hs2) (hr' := hsw); refine EW.eXor ?_ (hr' := hbx); (first | refine EW.eIndexAddrS (z := 1) ?_ | refine EW.eIndexAddrG (z := 1) ?_); (first | refine EW.eStoreW (k := 1) ?_ | refine EW.eStore (k := 1) ?_); refine EW.eEnd ?_; (try refine EW.nm ?_))
  all_goals try ((first | refine EW.eRegL (id := 11) ?_ | refine EW.eReg (id := 11) ?_); refine EW.eMove ?_; refine EW.eAdd ?_; refine EW.eAssign ?_; refine EW.eEnd ?_; (try refine EW.nm ?_))
  all_goals first | (fail_if_success (with_reducible refine EW.isLater ?_)) | (refine EW.eLaterD (⟨(i + 1, c.set j ((x ^^^ 2 ^ r : Nat) : Int)), by dsimp only; omega, hnx⟩) (by dsimp only; omega) (by ((repeat (first | exact EW.subW.nil | refine EW.subW.cons rfl ?_ | refine EW.subW.conv rfl ?_)); (first | done | fail))) hcl10) | (refine EW.eLaterD (⟨(i + 1, c), by dsimp only; omega, within_no hw⟩) (by dsimp only; omega) (by ((repeat (first | exact EW.subW.nil | refine EW.subW.cons rfl ?_ | refine EW.subW.conv rfl ?_)); (first | done | fail))) hcl10)
  all_goals try (refine EW.nm ?_)
  all_goals (try ((try dsimp only at hi hw); have hlc := hw.2.1; have hq9 := (spoilt_end hby hb9 hD0 hyb hw hi (by omega)); obtain ⟨m, e, t, hyc, htc, hDc, hst, hend⟩ := hq9; rcases hend with ⟨rfl, rfl, rfl⟩ | ⟨rfl, rfl, rfl⟩ <;> refine EW.eFreeze 30 ?_))
  all_goals try ((first | refine EW.eRegL (id := 14) ?_ | refine EW.eReg (id := 14) ?_); refine EW.eMove ?_; refine EW.eCallN [30] Try.call20 (hDc) ?_; refine EW.eMove ?_; (first | refine EW.eExtC ?_ | refine EW.eExtA ?_); (first | refine EW.eExtC ?_ | refine EW.eExtA ?_); refine EW.eAssign ?_; refine EW.eAssign ?_; refine EW.eEnd ?_; (try refine EW.nm ?_))
  all_goals try ((first | refine EW.eRegL (id := 15) ?_ | refine EW.eReg (id := 15) ?_); refine EW.eMove ?_; refine EW.eTextG (bs := U b) (hbs := text_all hyb) ?_; refine EW.eMove ?_; refine EW.eTextG (bs := U c) (hbs := htc) ?_; refine EW.eStrEq ?_ (hr' := hst); refine EW.eEnd ?_; (try refine EW.nm ?_))
  all_goals try (first | refine EW.eYes (x := Operand.tmp 98) ?_ | refine EW.eNo (x := Operand.tmp 98) ?_ | (refine EW.eCond (x := Operand.tmp 98) ?_ ?_ <;> (intro hb hb'; (try dsimp only at hb'); (try (exfalso; first | omega | with_reducible exact absurd rfl hb')))))
  all_goals try (refine EW.nm ?_)
  all_goals try ((first | refine EW.eRegL (id := 16) ?_ | refine EW.eReg (id := 16) ?_); refine EW.eMove ?_; refine EW.eMove ?_)
  all_goals try (refine EW.eGuard (j := 1) (o := ⟨some 101, _, _, _, _, _⟩) ?_ ?_ <;> (intro hb hb'; (try dsimp only at hb'); (try (exfalso; first | omega | with_reducible exact absurd rfl hb'))))
  all_goals try ((first | refine EW.eSkipT (j := 1) ?_ | refine EW.eSkipU (j := 1) ?_ | refine EW.eMove ?_); (first | refine EW.eSkipT (j := 1) ?_ | refine EW.eSkipU (j := 1) ?_ | refine EW.eEql ?_); (first | refine EW.ePickT ?_ | refine EW.ePickF ?_); refine EW.eMove ?_)
  all_goals try (refine EW.eGuard (j := 5) (o := ⟨some 105, _, _, _, _, _⟩) ?_ ?_ <;> (intro hb hb'; (try dsimp only at hb'); (try (exfalso; first | omega | with_reducible exact absurd rfl hb'))))
  all_goals try ((first | refine EW.eSkipT (j := 5) ?_ | refine EW.eSkipU (j := 5) ?_ | refine EW.eMove ?_); (first | refine EW.eSkipT (j := 5) ?_ | refine EW.eSkipU (j := 5) ?_ | refine EW.eMove ?_); (first | refine EW.eSkipT (j := 5) ?_ | refine EW.eSkipU (j := 5) ?_ | refine EW.eCallN [40, 0] Try.call19 (hS) ?_); (first | refine EW.ePickT ?_ | refine EW.ePickF ?_); refine EW.eAssign ?_; refine EW.eEnd ?_; (try refine EW.nm ?_))
  all_goals try (with_reducible refine EW.parkK ?_)
  all_goals try ((first | refine EW.eRegL (id := 17) ?_ | refine EW.eReg (id := 17) ?_); refine EW.eMove ?_; refine EW.eMove ?_)
  all_goals try (refine EW.eGuard (j := 1) (o := ⟨some 111, _, _, _, _, _⟩) ?_ ?_ <;> (intro hb hb'; (try dsimp only at hb'); (try (exfalso; first | omega | with_reducible exact absurd rfl hb'))))
  all_goals try ((first | refine EW.eSkipT (j := 1) ?_ | refine EW.eSkipU (j := 1) ?_ | refine EW.eMove ?_); (first | refine EW.eSkipT (j := 1) ?_ | refine EW.eSkipU (j := 1) ?_ | refine EW.eEql ?_); (first | refine EW.ePickT ?_ | refine EW.ePickF ?_); refine EW.eMove ?_)
  all_goals try (refine EW.eGuard (j := 5) (o := ⟨some 115, _, _, _, _, _⟩) ?_ ?_ <;> (intro hb hb'; (try dsimp only at hb'); (try (exfalso; first | omega | with_reducible exact absurd rfl hb'))))
  all_goals try ((first | refine EW.eSkipT (j := 5) ?_ | refine EW.eSkipU (j := 5) ?_ | refine EW.eMove ?_); (first | refine EW.eSkipT (j := 5) ?_ | refine EW.eSkipU (j := 5) ?_ | refine EW.eLenS ?_ | refine EW.eLenG ?_ | refine EW.eLenN ?_); (first | refine EW.eSkipT (j := 5) ?_ | refine EW.eSkipU (j := 5) ?_ | refine EW.eEql ?_); (first | refine EW.ePickT ?_ | refine EW.ePickF ?_); refine EW.eAssign ?_; refine EW.eEnd ?_; (try refine EW.nm ?_))
  all_goals try (with_reducible refine EW.parkK ?_)
  all_goals try (refine EW.Park.mk ?_)
  all_goals (refine EW.eLeaveN [] hR (by first | exact .inl rfl | exact .inr rfl) (by rfl) (by rfl) ?_ ?_ rfl rfl (by (((repeat (first | exact EW.NL.emp | (refine EW.NL.upd ?_ rfl) | refine EW.NL.drp ?_ | refine EW.NL.hp ?_ | refine EW.NL.argS ?_ | refine EW.NL.mix ?_)); (first | done | fail)))) rfl rfl; rotate_left 1; (· ((repeat (first | exact EW.atE.nil | refine EW.atE.lt rfl ?_ | refine EW.atE.lf ?_ | refine EW.atE.b rfl EW.SameB.refl ?_ | (refine EW.atE.b rfl ?_ ?_; rotate_left 1))))))
  all_goals rfl
theorem spoilt_row (W : World) (at_ mask : Int) {b0 o0 len0 room0 : Nat} {rows0 : List (List Value)} {v0 : Value} (hl0 : rows0.length = len0) (ft0 : ∀ s ∈ rows0, Fit [.i .u32, .i .i64, .i .i64, .i .u32] s) (sr0 : SrcG W b0 o0 room0 rows0.flatten) (hv0 : InG v0 b0 o0 len0 room0 4) (ha : 0 ≤ at_ ∧ at_ < 65536) (hm : 0 ≤ mask ∧ mask < 4294967296) :
    Calls Try.prog 6 #[v0, .int .u16 at_, .int .u32 mask] W fun e w' => e = .returned (.bool true) ∧ Below W.heap.size W w' := by
  obtain ⟨l, c1, c2, c3⟩ := px_of_rows ft0
  rw [c2] at sr0
  obtain rfl : l.length = len0 := by omega
  have hT : RS_ l at_ mask := by
    rcases Nat.lt_or_ge 500 l.length with hf | hf
    · exact spoilt_far l at_ mask hf
    · by_cases hs : spOk l
      · have := spoilt_in l at_.toNat mask hf ⟨hs, wf_of c3⟩ (by omega) (by omega)
        rwa [Int.toNat_of_nonneg ha.1] at this
      · exact spoilt_bad l at_ mask hf hs
  exact calls_rowsG (us := [v0, .int .u16 at_, .int .u32 mask]) (Ls := [pvs l]) (A := [(b0, o0, room0)]) (w := W) hT rfl (by decide)
    (fun i L hi => by
      match i, hi with
      | 0, hi => simp only [List.getElem?_cons_zero, Option.some.injEq] at hi; subst hi; exact ⟨sr0, pvs_one l⟩
      | i + 1, hi => simp at hi)
    (okvs_sliceG rfl hv0 (okvs_plain .c rfl (okvs_plain .c rfl okvs_nil)))
    (fun v hv n hn => by
      simp only [List.mem_cons, List.not_mem_nil, or_false] at hv
      rcases hv with rfl | rfl | rfl <;> simp [V.names, C.names, List.flatMap_cons] at hn <;> simp [hn])
end Go.Proofs.Ytnmkpekfkfckoaa
