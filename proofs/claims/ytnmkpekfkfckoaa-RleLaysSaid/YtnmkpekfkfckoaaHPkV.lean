/- The document's pack: the reader. -/
import Derived.Test.YtnmkpekfkfckoaaHPkK
namespace Go.Proofs.Ytnmkpekfkfckoaa
set_option linter.unusedSimpArgs false
set_option linter.unusedVariables false
open Go.RowKit EV
open SX (Wr Tv Qu Rm Sh Is conjP eqs_iff eqs_false)
open EW (PlL PlT PlV PlVs LfV Mm Bt Opn GV YT lpOf nums)
set_option maxRecDepth 20000
abbrev dcs (n p : Nat) (lost : Bool) : List C := [.g 1 0 n n 1, .v (.int .i64 (p : Int)), .v (.bool lost)]
noncomputable def WD (o : Bool) (bs : List Int) (p : Nat) (lost : Bool) : Ws := [(.l 0, .l true), (.b 0, .b (.m true (dcs bs.length p lost))), (.l 1, .l true), (.b 1, .b (.w o (nums .u8 bs)))]
/-- 128 to a power, as it stands in 64 bits. -/
def w7 (i : Nat) : Nat := 128 ^ i % 18446744073709551616
theorem w7_zero : w7 0 = 1 := by decide
theorem w7_succ (i : Nat) : ((w7 i : Nat) : Int) * 128 % 18446744073709551616 = ((w7 (i + 1) : Nat) : Int) := by
  unfold w7; rw [Nat.pow_succ]; omega
theorem w7_lo {i : Nat} (h : i ≤ 9) : w7 i = 128 ^ i := by
  unfold w7
  have := Nat.pow_le_pow_right (show 128 > 0 by omega) h
  exact Nat.mod_eq_of_lt (by omega)
theorem w7_mul {c : Int} {i : Nat} (h0 : 0 ≤ c) (hi : i ≤ 9) (h9 : i = 9 → c % 128 ≤ 1) : Wr .u64 (c % 128 * ((w7 i : Nat) : Int)) (((c % 128).toNat * 128 ^ i : Nat) : Int) := by
  rw [w7_lo hi]; exact wr7 h0 hi h9
theorem w7_add {a i : Nat} {c : Int} (h0 : 0 ≤ c) (ha : a < 128 ^ i) (hi : i ≤ 9) (h9 : i = 9 → c % 128 ≤ 1) : Wr .u64 ((a : Int) + (((c % 128).toNat * 128 ^ i : Nat) : Int)) ((a + (c % 128).toNat * 128 ^ i : Nat) : Int) := by
  have e : (a : Int) + (((c % 128).toNat * 128 ^ i : Nat) : Int) = ((a + (c % 128).toNat * 128 ^ i : Nat) : Int) := by rw [Int.natCast_add]
  rw [e]
  refine Wr.u64 ⟨by omega, ?_⟩
  have hp : 128 ^ i ≤ 128 ^ 9 := Nat.pow_le_pow_right (by omega) hi
  rcases Nat.lt_or_ge i 9 with h | h
  · have h1 : 128 ^ i ≤ 128 ^ 8 := Nat.pow_le_pow_right (by omega) (by omega)
    have h2 : (c % 128).toNat ≤ 127 := by omega
    have := Nat.mul_le_mul h2 h1
    omega
  · have : i = 9 := by omega
    subst this
    have h2 : (c % 128).toNat ≤ 1 := by have := h9 rfl; omega
    have := Nat.mul_le_mul_right (128 ^ 9) h2
    omega
theorem nv_ten {bs : List Int} {p i a : Nat} (he : numA i a (bs.drop (p + i)) = num (bs.drop p)) (h : p + i ≤ bs.length) (hi : 9 < i) : numV (bs.drop p) = (0, 0) := by
  rcases Nat.lt_or_ge (p + i) bs.length with h1 | h1
  · exact nv_10 he h1 hi
  · exact nv_end he (by omega)
theorem pair_nat {a b c d : Nat} (h : (a, b) = (c, d)) : a = c ∧ b = d := by cases h; exact ⟨rfl, rfl⟩
set_option maxHeartbeats 2000000 in
theorem dupto (o : Bool) (bs : List Int) (p n m V' K' Rv at' : Nat) (lost' : Bool) (hy : By bs) (hn : p + n = bs.length) (hl : bs.length ≤ 1000000) (hV : numV (bs.drop p) = (V', K')) (hres : (0 < K' ∧ V' ≤ m ∧ V' = Rv ∧ p + K' = at' ∧ lost' = false) ∨ ((K' = 0 ∨ m < V') ∧ Rv = 0 ∧ p = at' ∧ lost' = true)) : CT Try.prog 76 [.c (.p 0 0), .c (.v (.int .u64 m))] (upd EW.emp (WD o bs p false)) 2 2 (.c (.v (.int .u64 Rv))) (upd (upd EW.emp (WD o bs p false)) [(.b 0, .b (.m true (dcs bs.length at' lost')))]) := by
  rcases hres with ⟨h1, h2, rfl, rfl, rfl⟩ | ⟨h1, rfl, rfl, rfl⟩
  all_goals
    refine EW.ctEnter EW.sup1 Try.func76 rfl Try.ntmps76 rfl EW.nlP ?_; intro w0 tch ini R hR
    all_goals try (refine EW.nm ?_)
    all_goals try (refine EW.eReg (id := 0) ?_; refine EW.eAssign ?_; refine EW.eEnd ?_; (try refine EW.nm ?_))
    all_goals try (refine EW.eReg (id := 1) ?_; refine EW.eMove ?_; (first | refine EW.eNil ?_ | refine EW.eNilF ?_ | refine EW.eNilY ?_ | refine EW.eNilP ?_); refine EW.eFieldAddr (k := 1) ?_; refine EW.eLoad1 ?_; refine EW.eEnd ?_; (try refine EW.nm ?_))
    all_goals try (first | refine EW.eYes (x := .tmp 12) ?_ | refine EW.eNo (x := .tmp 12) ?_ | (refine EW.eCond (x := .tmp 12) ?_ ?_ <;> (intro hb hb'; (try dsimp only at hb'); (try (exfalso; first | omega | with_reducible exact absurd rfl hb')))))
    all_goals try (refine EW.nm ?_)
    all_goals try (refine EW.eReg (id := 2) ?_; refine EW.eAssign ?_; refine EW.eEnd ?_; (try refine EW.nm ?_))
    all_goals try (with_reducible refine EW.parkK ?_)
    all_goals try (refine EW.eReg (id := 3) ?_; refine EW.eAssign ?_; refine EW.eEnd ?_; (try refine EW.nm ?_))
    all_goals try (refine EW.eReg (id := 4) ?_; refine EW.eAssign ?_; refine EW.eEnd ?_; (try refine EW.nm ?_))
    all_goals try (refine EW.eReg (id := 5) ?_; refine EW.eAssign ?_; refine EW.eEnd ?_; (try refine EW.nm ?_))
    all_goals first | (fail_if_success (refine EW.eUnroll 1 ?_)) | (refine EW.eLoopD [4, 5, 6, 7, 8, 13, 14, 15, 16, 17, 18, 19, 20, 21, 22, 23, 24, 25, 26, 27, 28, 29, 30, 31, 32, 33, 34, 35, 36, 37, 38, 39, 40, 41, 42, 43, 44, 45, 46, 47, 48, 49, 50, 51, 52, 53, 54, 55, 56, 57, 58, 59, 60, 61, 62, 63, 64, 65, 66, 67, 68, 69, 70, 71, 72, 73, 74, 75, 76, 77, 78, 79, 80, 81] 1000000 (fun j : {x : Nat × Nat // numA x.1 x.2 (bs.drop (p + x.1)) = num (bs.drop p) ∧ x.1 ≤ n ∧ (x.1 ≤ 9 → x.2 < 128 ^ x.1) ∧ x.1 ≤ 10} => [(.t 7, .v (.c (.v (.int .i64 (j.1.1 : Int))))), (.t 5, .v (.c (.v (.int .u64 (j.1.2 : Int))))), (.t 6, .v (.c (.v (.int .u64 ((w7 j.1.1 : Nat) : Int)))))]) (fun j => n - j.1.1) (⟨(0, 0), rfl, by omega, fun _ => by decide, by omega⟩) (by ((repeat (first | exact EW.subW.nil | refine EW.subW.cons rfl ?_ | refine EW.subW.conv rfl ?_ (by first | exact EW.kvI (w7_succ _) | exact EW.kvI (by rw [w7_zero]; rfl)) | refine EW.subW.conv rfl ?_)); (first | done | fail))) ?_; rintro hcl6 ⟨⟨i, a⟩, he, hi, ha, h10⟩; (try dsimp only))
    all_goals try (refine EW.nm ?_)
    all_goals try (refine EW.eReg (id := 6) ?_; refine EW.eMove ?_; refine EW.eLss ?_; refine EW.eMove ?_)
    all_goals try (refine EW.eGuard (j := 2) (o := ⟨some 16, _, _, _, _, _⟩) ?_ ?_ <;> (intro hb hb'; (try dsimp only at hb'); (try (exfalso; first | omega | with_reducible exact absurd rfl hb'))))
    all_goals try ((first | refine EW.eSkipT (j := 2) ?_ | refine EW.eSkipU (j := 2) ?_ | refine EW.eMove ?_); (first | refine EW.eSkipT (j := 2) ?_ | refine EW.eSkipU (j := 2) ?_ | refine EW.eNil ?_ | refine EW.eNilF ?_ | refine EW.eNilY ?_ | refine EW.eNilP ?_); (first | refine EW.eSkipT (j := 2) ?_ | refine EW.eSkipU (j := 2) ?_ | refine EW.eFieldAddr (k := 1) ?_); (first | refine EW.eSkipT (j := 2) ?_ | refine EW.eSkipU (j := 2) ?_ | refine EW.eLoad1 ?_); (first | refine EW.eSkipT (j := 2) ?_ | refine EW.eSkipU (j := 2) ?_ | refine EW.eMove ?_); (first | refine EW.eSkipT (j := 2) ?_ | refine EW.eSkipU (j := 2) ?_ | refine EW.eAdd ?_); (first | refine EW.eSkipT (j := 2) ?_ | refine EW.eSkipU (j := 2) ?_ | refine EW.eMove ?_); (first | refine EW.eSkipT (j := 2) ?_ | refine EW.eSkipU (j := 2) ?_ | refine EW.eNil ?_ | refine EW.eNilF ?_ | refine EW.eNilY ?_ | refine EW.eNilP ?_); (first | refine EW.eSkipT (j := 2) ?_ | refine EW.eSkipU (j := 2) ?_ | refine EW.eFieldAddr (k := 1) ?_); (first | refine EW.eSkipT (j := 2) ?_ | refine EW.eSkipU (j := 2) ?_ | refine EW.eLoad1 ?_); (first | refine EW.eSkipT (j := 2) ?_ | refine EW.eSkipU (j := 2) ?_ | refine EW.eLenS ?_ | refine EW.eLenG ?_ | refine EW.eLenN ?_); (first | refine EW.eSkipT (j := 2) ?_ | refine EW.eSkipU (j := 2) ?_ | refine EW.eLss ?_); (first | refine EW.ePickT ?_ | refine EW.ePickF ?_); refine EW.eDraw ?_; (try refine EW.nm ?_))
    all_goals try (first | refine EW.eYes (x := .tmp 28) ?_ | refine EW.eNo (x := .tmp 28) ?_ | (refine EW.eCond (x := .tmp 28) ?_ ?_ <;> (intro hb hb'; (try dsimp only at hb'); (try (exfalso; first | omega | with_reducible exact absurd rfl hb')))))
    all_goals try (refine EW.nm ?_)
    all_goals (try ((try dsimp only at he hi ha h10); have hlt : p + i < bs.length := (by omega); obtain ⟨c0, c1⟩ := by_get (bs := bs) (p := p) (i := i) hy hlt))
    all_goals try (refine EW.eReg (id := 8) ?_; refine EW.eMove ?_; (first | refine EW.eNil ?_ | refine EW.eNilF ?_ | refine EW.eNilY ?_ | refine EW.eNilP ?_); refine EW.eFieldAddr (k := 1) ?_; refine EW.eLoad1 ?_; refine EW.eMove ?_; (first | refine EW.eNil ?_ | refine EW.eNilF ?_ | refine EW.eNilY ?_ | refine EW.eNilP ?_); refine EW.eFieldAddr (k := 1) ?_; refine EW.eLoad1 ?_; refine EW.eMove ?_; refine EW.eAdd ?_; (first | refine EW.eIndexAddrS (z := 1) ?_ | refine EW.eIndexAddrG (z := 1) ?_); refine EW.eLoad1 ?_; refine EW.eConv ?_; refine EW.eAssign ?_; refine EW.eDraw ?_; (try refine EW.nm ?_))
    all_goals try (refine EW.eReg (id := 9) ?_; refine EW.eMove ?_; refine EW.eEql ?_; refine EW.eMove ?_)
    all_goals try (refine EW.eGuard (j := 2) (o := ⟨some 47, _, _, _, _, _⟩) ?_ ?_ <;> (intro hb hb'; (try dsimp only at hb'); (try (exfalso; first | omega | with_reducible exact absurd rfl hb'))))
    all_goals try ((first | refine EW.eSkipT (j := 2) ?_ | refine EW.eSkipU (j := 2) ?_ | refine EW.eMove ?_); (first | refine EW.eSkipT (j := 2) ?_ | refine EW.eSkipU (j := 2) ?_ | refine EW.eGtr ?_); (first | refine EW.ePickT ?_ | refine EW.ePickF ?_); refine EW.eEnd ?_; (try refine EW.nm ?_))
    all_goals try (first | refine EW.eYes (x := .tmp 49) ?_ | refine EW.eNo (x := .tmp 49) ?_ | (refine EW.eCond (x := .tmp 49) ?_ ?_ <;> (intro hb hb'; (try dsimp only at hb'); (try (exfalso; first | omega | with_reducible exact absurd rfl hb')))))
    all_goals try (refine EW.nm ?_)
    all_goals try (refine EW.eReg (id := 10) ?_; refine EW.eMove ?_; refine EW.eMove ?_; refine EW.eRem ?_; refine EW.eMove ?_; refine EW.eMul (hr' := w7_mul c0 (by omega) (by omega)) ?_; refine EW.eAdd (hr' := w7_add c0 (ha (by omega)) (by omega) (by omega)) ?_; refine EW.eAssign ?_; refine EW.eEnd ?_; (try refine EW.nm ?_))
    all_goals try (refine EW.eReg (id := 11) ?_; refine EW.eMove ?_; refine EW.eMul ?_; refine EW.eAssign ?_; refine EW.eEnd ?_; (try refine EW.nm ?_))
    all_goals try (refine EW.eReg (id := 12) ?_; refine EW.eMove ?_; refine EW.eGeq ?_; refine EW.eEnd ?_; (try refine EW.nm ?_))
    all_goals try (first | refine EW.eYes (x := .tmp 59) ?_ | refine EW.eNo (x := .tmp 59) ?_ | (refine EW.eCond (x := .tmp 59) ?_ ?_ <;> (intro hb hb'; (try dsimp only at hb'); (try (exfalso; first | omega | with_reducible exact absurd rfl hb')))))
    all_goals try (refine EW.nm ?_)
    all_goals try (refine EW.eReg (id := 13) ?_; refine EW.eMove ?_; refine EW.eGtr ?_; refine EW.eMove ?_)
    all_goals try (refine EW.eGuard (j := 2) (o := ⟨some 63, _, _, _, _, _⟩) ?_ ?_ <;> (intro hb hb'; (try dsimp only at hb'); (try (exfalso; first | omega | with_reducible exact absurd rfl hb'))))
    all_goals try ((first | refine EW.eSkipT (j := 2) ?_ | refine EW.eSkipU (j := 2) ?_ | refine EW.eMove ?_); (first | refine EW.eSkipT (j := 2) ?_ | refine EW.eSkipU (j := 2) ?_ | refine EW.eEql ?_); (first | refine EW.ePickT ?_ | refine EW.ePickF ?_); refine EW.eMove ?_)
    all_goals try (refine EW.eGuard (j := 6) (o := ⟨some 67, _, _, _, _, _⟩) ?_ ?_ <;> (intro hb hb'; (try dsimp only at hb'); (try (exfalso; first | omega | with_reducible exact absurd rfl hb'))))
    all_goals try ((first | refine EW.eSkipF (j := 6) ?_ | refine EW.eSkipU (j := 6) ?_ | refine EW.eMove ?_); (first | refine EW.eSkipF (j := 6) ?_ | refine EW.eSkipU (j := 6) ?_ | refine EW.eMove ?_); (first | refine EW.eSkipF (j := 6) ?_ | refine EW.eSkipU (j := 6) ?_ | refine EW.eGtr ?_); (first | refine EW.ePickT ?_ | refine EW.ePickF ?_); refine EW.eEnd ?_; (try refine EW.nm ?_))
    all_goals try (first | refine EW.eYes (x := .tmp 70) ?_ | refine EW.eNo (x := .tmp 70) ?_ | (refine EW.eCond (x := .tmp 70) ?_ ?_ <;> (intro hb hb'; (try dsimp only at hb'); (try (exfalso; first | omega | with_reducible exact absurd rfl hb')))))
    all_goals try (refine EW.nm ?_)
    all_goals (try (have hv := nv_some he hlt (by omega) (by omega) (by omega) c0 (by omega); rw [hV] at hv; obtain ⟨e1, e2⟩ := pair_nat hv; first | (exfalso; omega) | subst e1 e2))
    all_goals try (refine EW.eReg (id := 14) ?_; refine EW.eMove ?_; refine EW.eMove ?_; (first | refine EW.eNil ?_ | refine EW.eNilF ?_ | refine EW.eNilY ?_ | refine EW.eNilP ?_); refine EW.eFieldAddr (k := 1) ?_; refine EW.eLoad1 ?_; refine EW.eMove ?_; refine EW.eAdd ?_; refine EW.eAdd ?_; (first | refine EW.eNil ?_ | refine EW.eNilF ?_ | refine EW.eNilY ?_ | refine EW.eNilP ?_); refine EW.eFieldAddr (k := 1) ?_; (first | refine EW.eStoreW (k := 1) ?_ | refine EW.eStore (k := 1) ?_); refine EW.eEnd ?_; (try refine EW.nm ?_))
    all_goals try (refine EW.eReg (id := 15) ?_; refine EW.eMove ?_; refine EW.eAssign ?_; refine EW.eEnd ?_; (try refine EW.nm ?_))
    all_goals try (with_reducible refine EW.parkK ?_)
    all_goals try (refine EW.eReg (id := 7) ?_; refine EW.eMove ?_; refine EW.eAdd ?_; refine EW.eAssign ?_; refine EW.eEnd ?_; (try refine EW.nm ?_))
    all_goals first | (fail_if_success (with_reducible refine EW.isLater ?_)) | (refine EW.eLaterD (⟨(i + 1, a + (bs.getD (p + i) 0 % 128).toNat * 128 ^ i), nv_step he (by omega) (by omega) (by omega), by dsimp only; omega, nv_lt ha (by omega) c0, by dsimp only; omega⟩) (by dsimp only; omega) (by ((repeat (first | exact EW.subW.nil | refine EW.subW.cons rfl ?_ | refine EW.subW.conv rfl ?_ (by first | exact EW.kvI (w7_succ _) | exact EW.kvI (by rw [w7_zero]; rfl)) | refine EW.subW.conv rfl ?_)); (first | done | fail))) hcl6)
    all_goals try (refine EW.nm ?_)
    all_goals (try ((try dsimp only at he hi ha h10); (first | have hv := nv_big he (by omega) (by omega) (by omega) | have hv := nv_zero he (by omega) (by omega) (by omega) (by omega) | have hv := nv_some he hlt (by omega) (by omega) (by omega) c0 (by omega) | have hv := nv_ten he (by omega) (by omega) | have hv := nv_end he (by omega)); rw [hV] at hv; obtain ⟨e1, e2⟩ := pair_nat hv; try (exfalso; omega)))
    all_goals try (refine EW.eReg (id := 16) ?_; refine EW.eMove ?_; (first | refine EW.eNil ?_ | refine EW.eNilF ?_ | refine EW.eNilY ?_ | refine EW.eNilP ?_); refine EW.eFieldAddr (k := 1) ?_; (first | refine EW.eStoreW (k := 1) ?_ | refine EW.eStore (k := 1) ?_); refine EW.eEnd ?_; (try refine EW.nm ?_))
    all_goals try (refine EW.eReg (id := 17) ?_; refine EW.eAssign ?_; refine EW.eEnd ?_; (try refine EW.nm ?_))
    all_goals try (with_reducible refine EW.parkK ?_)
    all_goals try (refine EW.Park.mk ?_)
    all_goals (refine EW.eLeaveN [] hR EW.orP (by rfl) (by rfl) ?_ ?_ rfl rfl EW.nlP rfl rfl; rotate_left 1; (· ((repeat (first | exact EW.atE.nil | refine EW.atE.lt rfl ?_ | refine EW.atE.lf ?_ | refine EW.atE.b rfl EW.SameB.refl ?_ | (refine EW.atE.b rfl ?_ ?_; rotate_left 1))))))
    all_goals rfl
end Go.Proofs.Ytnmkpekfkfckoaa
