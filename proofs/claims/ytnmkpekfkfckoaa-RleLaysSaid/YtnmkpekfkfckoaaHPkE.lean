/- Package pack: the reader's number. -/
import Derived.Test.YtnmkpekfkfckoaaHPkD
import Derived.Test.YtnmkpekfkfckoaaShelf
namespace Go.Proofs.Ytnmkpekfkfckoaa
set_option linter.unusedSectionVars false
set_option linter.unusedSimpArgs false
set_option linter.unusedVariables false
open Go.RowKit EV
open SX (Wr Tv Qu Rm Sh Is conjP eqs_iff eqs_false)
open EW (PlL PlT PlV PlVs LfV Mm Bt Opn GV YT lpOf nums)
set_option maxRecDepth 20000
/-- A reader that stands at a place of bytes, of which n are left. -/
noncomputable def WR (bs : List Int) (p n : Nat) (lost : Bool) : Ws := [(.l 0, .l true), (.b 0, .b (.m true [.g 1 p n n 1, .v (.bool true), .v (.bool lost)])), (.l 1, .l true), (.b 1, .b (.w true (nums .u8 bs)))]
def numV (l : List Int) : Nat × Nat := match num l with
  | some p => p
  | none => (0, 0)
theorem below_refl (w : World) : Below w.heap.size w w := ⟨rfl, rfl, rfl, Nat.le_refl _, fun _ _ => rfl⟩
theorem len64 (x : Int) (h0 : 0 ≤ x) (h1 : x < 128) : ∃ L : Int, (x = 0 → L = 0) ∧ (x = 1 → L = 1) ∧ (2 ≤ x → 2 ≤ L) ∧ 0 ≤ L ∧ L ≤ 7 ∧ ∀ w : World, Calls Try.prog 106 #[.int .u64 x] w fun e w' => e = .returned (.int .i64 L) ∧ Below w.heap.size w w' := by
  have key : ∀ r : Fin 128, (r.1 = 0 → Lib.bitLen r.1 = 0) ∧ (r.1 = 1 → Lib.bitLen r.1 = 1) ∧ (2 ≤ r.1 → 2 ≤ Lib.bitLen r.1) ∧ Lib.bitLen r.1 ≤ 7 := by decide +kernel
  obtain ⟨k1, k2, k3, k4⟩ := key ⟨x.toNat, by omega⟩
  simp only at k1 k2 k3 k4
  refine ⟨(Lib.bitLen x.toNat : Int), fun h => by rw [k1 (by omega)]; rfl, fun h => by rw [k2 (by omega)]; rfl, fun h => by have := k3 (by omega); omega, by omega, by omega, fun w => ?_⟩
  refine (Try.bits_Len64 x w h0 (by omega)).mono ?_
  rintro e w' ⟨rfl, rfl⟩
  exact ⟨rfl, below_refl _⟩
theorem sh7 {i : Nat} (h : i ≤ 9) : Sh .u64 (7 * (i : Int)) ((128 ^ i : Nat) : Int) := by
  refine ⟨?_⟩
  have e : min (7 * (i : Int)).toNat IntKind.u64.bits = 7 * i := by
    simp only [IntKind.bits]; omega
  have e2 : (128 ^ i : Nat) = 2 ^ (7 * i) := by rw [Nat.pow_mul]
  rw [e, e2]; simp
theorem wr7 {c : Int} {i : Nat} (h0 : 0 ≤ c) (hi : i ≤ 9) (h9 : i = 9 → c % 128 ≤ 1) : Wr .u64 (c % 128 * ((128 ^ i : Nat) : Int)) (((c % 128).toNat * 128 ^ i : Nat) : Int) := by
  have e : c % 128 * ((128 ^ i : Nat) : Int) = (((c % 128).toNat * 128 ^ i : Nat) : Int) := by
    rw [Int.natCast_mul]; congr 1; omega
  rw [e]
  have hb : (c % 128).toNat * 128 ^ i < 18446744073709551616 := by
    rcases Nat.lt_or_ge i 9 with h | h
    · have h1 : 128 ^ i ≤ 128 ^ 8 := Nat.pow_le_pow_right (by omega) (by omega)
      have h2 : (c % 128).toNat ≤ 127 := by omega
      have := Nat.mul_le_mul h2 h1
      omega
    · have : i = 9 := by omega
      subst this
      have h2 : (c % 128).toNat ≤ 1 := by have := h9 rfl; omega
      have := Nat.mul_le_mul_right (128 ^ 9) h2
      omega
  exact Wr.u64 (by omega)
theorem or7 {a i : Nat} {c : Int} (h0 : 0 ≤ c) (ha : a < 128 ^ i) (hi : i ≤ 9) (h9 : i = 9 → c % 128 ≤ 1) : Bt .u64 .or (a : Int) (((c % 128).toNat * 128 ^ i : Nat) : Int) ((a + (c % 128).toNat * 128 ^ i : Nat) : Int) := by
  have e : 128 ^ i = 2 ^ (7 * i) := by rw [Nat.pow_mul]
  rw [Nat.mul_comm, e]
  refine bt_join a _ (7 * i) (by rw [← e]; exact ha) ?_
  rw [← e]
  rcases Nat.lt_or_ge i 9 with h | h
  · have h1 : 128 ^ i ≤ 128 ^ 8 := Nat.pow_le_pow_right (by omega) (by omega)
    have h2 : (c % 128).toNat ≤ 127 := by omega
    have := Nat.mul_le_mul h1 h2
    omega
  · have : i = 9 := by omega
    subst this
    have h2 : (c % 128).toNat ≤ 1 := by have := h9 rfl; omega
    have := Nat.mul_le_mul_left (128 ^ 9) h2
    omega
section
variable {bs : List Int} {p i a : Nat}
theorem drop_at (h : p + i < bs.length) : bs.drop (p + i) = bs.getD (p + i) 0 :: bs.drop (p + (i + 1)) := by
  rw [List.drop_eq_getElem_cons h]; simp [List.getD_eq_getElem?_getD, List.getElem?_eq_getElem h, Nat.add_assoc]
theorem numV_none (h : num (bs.drop p) = none) : numV (bs.drop p) = (0, 0) := by rw [numV, h]
theorem nv_end (he : numA i a (bs.drop (p + i)) = num (bs.drop p)) (h : p + i = bs.length) : numV (bs.drop p) = (0, 0) := by
  refine numV_none ?_
  rw [← he, h, List.drop_length]; rfl
theorem nv_10 (he : numA i a (bs.drop (p + i)) = num (bs.drop p)) (h : p + i < bs.length) (hi : 9 < i) : numV (bs.drop p) = (0, 0) := by
  refine numV_none ?_
  rw [← he, drop_at h, numA, if_pos (.inr hi)]
theorem nv_big (he : numA i a (bs.drop (p + i)) = num (bs.drop p)) (h : p + i < bs.length) (hi : i = 9) (hc : 1 < bs.getD (p + i) 0) : numV (bs.drop p) = (0, 0) := by
  refine numV_none ?_
  rw [← he, drop_at h, numA, if_pos (.inl ⟨hi, hc⟩)]
theorem nv_zero (he : numA i a (bs.drop (p + i)) = num (bs.drop p)) (h : p + i < bs.length) (hi : i ≤ 9) (h0 : 0 < i) (hc : bs.getD (p + i) 0 = 0) : numV (bs.drop p) = (0, 0) := by
  refine numV_none ?_
  rw [← he, drop_at h, numA, if_neg (by omega), if_neg (by omega), if_pos ⟨hc, h0⟩]
theorem nv_some (he : numA i a (bs.drop (p + i)) = num (bs.drop p)) (h : p + i < bs.length) (hi : i ≤ 9) (h9 : i = 9 → bs.getD (p + i) 0 ≤ 1) (hc : bs.getD (p + i) 0 < 128) (hc0 : 0 ≤ bs.getD (p + i) 0) (hz : ¬ (bs.getD (p + i) 0 = 0 ∧ 0 < i)) : numV (bs.drop p) = (a + (bs.getD (p + i) 0 % 128).toNat * 128 ^ i, i + 1) := by
  have : num (bs.drop p) = some (a + (bs.getD (p + i) 0 % 128).toNat * 128 ^ i, i + 1) := by
    rw [← he, drop_at h, numA, if_neg (by omega), if_neg (by omega), if_neg hz, show bs.getD (p + i) 0 % 128 = bs.getD (p + i) 0 by omega]
  rw [numV, this]
theorem nv_step (he : numA i a (bs.drop (p + i)) = num (bs.drop p)) (h : p + i < bs.length) (hi : i ≤ 9) (hc : 128 ≤ bs.getD (p + i) 0) : numA (i + 1) (a + (bs.getD (p + i) 0 % 128).toNat * 128 ^ i) (bs.drop (p + (i + 1))) = num (bs.drop p) := by
  rw [← he, drop_at h, numA]
  rcases Nat.lt_or_ge i 9 with h9 | h9
  · rw [if_neg (by omega), if_pos hc]
  · rw [if_pos (.inl ⟨by omega, by omega⟩)]
    cases bs.drop (p + (i + 1)) with
    | nil => rfl
    | cons x r => rw [numA, if_pos (.inr (by omega))]
theorem nv_lt {c : Int} (ha : i ≤ 9 → a < 128 ^ i) (hi : i ≤ 9) (hc : 0 ≤ c) : i + 1 ≤ 9 → a + (c % 128).toNat * 128 ^ i < 128 ^ (i + 1) := fun _ => by
  have h1 := ha hi
  have h2 : (c % 128).toNat ≤ 127 := by omega
  have h3 := Nat.mul_le_mul_right (128 ^ i) h2
  rw [Nat.pow_succ]; omega
theorem by_get (hb : By bs) (h : p + i < bs.length) : 0 ≤ bs.getD (p + i) 0 ∧ bs.getD (p + i) 0 < 256 := by
  refine hb _ ?_
  rw [List.getD_eq_getElem?_getD, List.getElem?_eq_getElem h]; exact List.getElem_mem h
end
set_option maxHeartbeats 2000000 in
theorem rnumber (bs : List Int) (p n : Nat) (lost : Bool) (hy : By bs) (hn : p + n = bs.length) (hl : bs.length ≤ 1000000) : CT Try.prog 99 [.c (.p 0 0)] (upd EW.emp (WR bs p n lost)) 2 2 (.t [.inl (.v (.int .u64 (numV (bs.drop p)).1)), .inl (.v (.int .i64 (numV (bs.drop p)).2))]) (upd (upd EW.emp (WR bs p n lost)) []) := by
  refine EW.ctEnter EW.sup1 Try.func99 rfl Try.ntmps99 rfl EW.nlP ?_; intro w0 tch ini R hR
  all_goals try (refine EW.nm ?_)
  all_goals try (refine EW.eReg (id := 0) ?_; refine EW.eAssign ?_; refine EW.eAssign ?_; refine EW.eEnd ?_; (try refine EW.nm ?_))
  all_goals try (refine EW.eReg (id := 1) ?_; refine EW.eMove ?_; (first | refine EW.eNil ?_ | refine EW.eNilF ?_ | refine EW.eNilY ?_ | refine EW.eNilP ?_); refine EW.eFieldAddr (k := 3) ?_; refine EW.eFieldAddr (k := 1) ?_; refine EW.eLoad1 ?_; (first | refine EW.eLenS ?_ | refine EW.eLenG ?_ | refine EW.eLenN ?_); refine EW.eMove ?_; refine EW.eEnd ?_; (try refine EW.nm ?_))
  all_goals first | (fail_if_success (refine EW.eUnroll 1 ?_)) | (refine EW.eLoopD [2, 3, 4, 5, 6, 13, 14, 15, 16, 17, 18, 19, 20, 21, 22, 23, 24, 25, 26, 27, 28, 29, 30, 31, 32, 33, 34, 35, 36, 37, 38, 39, 40, 41, 42, 43, 44, 45, 46, 47, 48] 1000000 (fun j : {x : Nat × Nat // numA x.1 x.2 (bs.drop (p + x.1)) = num (bs.drop p) ∧ x.1 ≤ n ∧ (x.1 ≤ 9 → x.2 < 128 ^ x.1) ∧ x.1 ≤ 10} => [(.t 13, .v (.c (.v (.int .i64 (j.1.1 : Int))))), (.t 2, .v (.c (.v (.int .u64 (j.1.2 : Int)))))]) (fun j => n - j.1.1) (⟨(0, 0), rfl, by omega, fun _ => by decide, by omega⟩) (by ((repeat (first | exact EW.subW.nil | refine EW.subW.cons rfl ?_ | refine EW.subW.conv rfl ?_)); (first | done | fail))) ?_; rintro hcl2 ⟨⟨i, a⟩, he, hi, ha, h10⟩; (try dsimp only))
  all_goals try (refine EW.nm ?_)
  all_goals try (refine EW.eReg (id := 2) ?_; refine EW.eLss ?_; refine EW.eEnd ?_; (try refine EW.nm ?_))
  all_goals try (first | refine EW.eYes (x := .tmp 14) ?_ | refine EW.eNo (x := .tmp 14) ?_ | (refine EW.eCond (x := .tmp 14) ?_ ?_ <;> (intro hb hb'; (try dsimp only at hb'); (try (exfalso; first | omega | with_reducible exact absurd rfl hb')))))
  all_goals try (refine EW.nm ?_)
  all_goals (try ((try dsimp only at he hi ha h10); have hlt : p + i < bs.length := (by omega); obtain ⟨c0, c1⟩ := by_get (bs := bs) (p := p) (i := i) hy hlt; have hlow := bt_low _ c0 c1; obtain ⟨L, l0, l1, l2, l3, l4, hL⟩ := len64 (bs.getD (p + i) 0 % 128) (by omega) (by omega)))
  all_goals try (refine EW.eReg (id := 3) ?_; refine EW.eMove ?_; (first | refine EW.eIndexAddrS (z := 1) ?_ | refine EW.eIndexAddrG (z := 1) ?_); refine EW.eLoad1 ?_; refine EW.eAssign ?_; refine EW.eAssign ?_; refine EW.eEnd ?_; (try refine EW.nm ?_))
  all_goals try (refine EW.eReg (id := 4) ?_; refine EW.eMove ?_; refine EW.eAnd ?_ (hr' := hlow); refine EW.eConv ?_; refine EW.eAssign ?_; refine EW.eEnd ?_; (try refine EW.nm ?_))
  all_goals try (refine EW.eReg (id := 5) ?_; refine EW.eMove ?_; refine EW.eEql ?_; refine EW.eMove ?_)
  all_goals try (refine EW.eGuard (j := 2) (o := ⟨some 24, _, _, _, _, _⟩) ?_ ?_ <;> (intro hb hb'; (try dsimp only at hb'); (try (exfalso; first | omega | with_reducible exact absurd rfl hb'))))
  all_goals try ((first | refine EW.eSkipF (j := 2) ?_ | refine EW.eSkipU (j := 2) ?_ | refine EW.eMove ?_); (first | refine EW.eSkipF (j := 2) ?_ | refine EW.eSkipU (j := 2) ?_ | refine EW.eCall Try.call106 (fun w => hL w) ?_); (first | refine EW.eSkipF (j := 2) ?_ | refine EW.eSkipU (j := 2) ?_ | refine EW.eMove ?_); (first | refine EW.eSkipF (j := 2) ?_ | refine EW.eSkipU (j := 2) ?_ | refine EW.eMul ?_); (first | refine EW.eSkipF (j := 2) ?_ | refine EW.eSkipU (j := 2) ?_ | refine EW.eAdd ?_); (first | refine EW.eSkipF (j := 2) ?_ | refine EW.eSkipU (j := 2) ?_ | refine EW.eGtr ?_); (first | refine EW.ePickT ?_ | refine EW.ePickF ?_); refine EW.eEnd ?_; (try refine EW.nm ?_))
  all_goals try (first | refine EW.eYes (x := .tmp 30) ?_ | refine EW.eNo (x := .tmp 30) ?_ | (refine EW.eCond (x := .tmp 30) ?_ ?_ <;> (intro hb hb'; (try dsimp only at hb'); (try (exfalso; first | omega | with_reducible exact absurd rfl hb')))))
  all_goals try (refine EW.nm ?_)
  all_goals (try ((first | (have hv := nv_10 he (by omega) (by omega)) | (have hv := nv_big he (by omega) (by omega) (by omega))); rw [hv] at hR))
  all_goals try (refine EW.eReg (id := 6) ?_; refine EW.eAssign ?_; refine EW.eAssign ?_; refine EW.eEnd ?_; (try refine EW.nm ?_))
  all_goals try (with_reducible refine EW.parkK ?_)
  all_goals try (refine EW.eReg (id := 7) ?_; refine EW.eMove ?_; refine EW.eMove ?_; refine EW.eMove ?_; refine EW.eMul ?_; refine EW.eShl ?_ (hm := sh7 (i := i) (by omega)) (hr' := wr7 c0 (by omega) (by omega)); refine EW.eOr ?_ (hr' := or7 c0 (ha (by omega)) (by omega) (by omega)); refine EW.eAssign ?_; refine EW.eEnd ?_; (try refine EW.nm ?_))
  all_goals try (refine EW.eReg (id := 8) ?_; refine EW.eMove ?_; refine EW.eGeq ?_; refine EW.eEnd ?_; (try refine EW.nm ?_))
  all_goals try (first | refine EW.eYes (x := .tmp 38) ?_ | refine EW.eNo (x := .tmp 38) ?_ | (refine EW.eCond (x := .tmp 38) ?_ ?_ <;> (intro hb hb'; (try dsimp only at hb'); (try (exfalso; first | omega | with_reducible exact absurd rfl hb')))))
  all_goals try (refine EW.nm ?_)
  all_goals try (refine EW.eReg (id := 9) ?_; refine EW.eMove ?_; refine EW.eEql ?_; refine EW.eMove ?_)
  all_goals try (refine EW.eGuard (j := 2) (o := ⟨some 42, _, _, _, _, _⟩) ?_ ?_ <;> (intro hb hb'; (try dsimp only at hb'); (try (exfalso; first | omega | with_reducible exact absurd rfl hb'))))
  all_goals try ((first | refine EW.eSkipT (j := 2) ?_ | refine EW.eSkipU (j := 2) ?_ | refine EW.eMove ?_); (first | refine EW.eSkipT (j := 2) ?_ | refine EW.eSkipU (j := 2) ?_ | refine EW.eGtr ?_); (first | refine EW.ePickT ?_ | refine EW.ePickF ?_); refine EW.eEnd ?_; (try refine EW.nm ?_))
  all_goals try (first | refine EW.eYes (x := .tmp 44) ?_ | refine EW.eNo (x := .tmp 44) ?_ | (refine EW.eCond (x := .tmp 44) ?_ ?_ <;> (intro hb hb'; (try dsimp only at hb'); (try (exfalso; first | omega | with_reducible exact absurd rfl hb')))))
  all_goals try (refine EW.nm ?_)
  all_goals (try (have hv := nv_zero he (by omega) (by omega) (by omega) (by omega); rw [hv] at hR))
  all_goals try (refine EW.eReg (id := 10) ?_; refine EW.eAssign ?_; refine EW.eAssign ?_; refine EW.eEnd ?_; (try refine EW.nm ?_))
  all_goals try (with_reducible refine EW.parkK ?_)
  all_goals (try (have hv := nv_some he (by omega) (by omega) (by omega) (by omega) c0 (by omega); rw [hv] at hR))
  all_goals try (refine EW.eReg (id := 11) ?_; refine EW.eMove ?_; refine EW.eMove ?_; refine EW.eAdd ?_; refine EW.eAssign ?_; refine EW.eAssign ?_; refine EW.eEnd ?_; (try refine EW.nm ?_))
  all_goals try (with_reducible refine EW.parkK ?_)
  all_goals try (refine EW.eReg (id := 12) ?_; refine EW.eAdd ?_; refine EW.eMove ?_; refine EW.eEnd ?_; (try refine EW.nm ?_))
  all_goals first | (fail_if_success (with_reducible refine EW.isLater ?_)) | (refine EW.eLaterD (⟨(i + 1, a + (bs.getD (p + i) 0 % 128).toNat * 128 ^ i), nv_step he (by omega) (by omega) (by omega), by dsimp only; omega, nv_lt ha (by omega) c0, by dsimp only; omega⟩) (by dsimp only; omega) (by ((repeat (first | exact EW.subW.nil | refine EW.subW.cons rfl ?_ | refine EW.subW.conv rfl ?_)); (first | done | fail))) hcl2)
  all_goals try (refine EW.nm ?_)
  all_goals (try ((try dsimp only at he hi ha h10); have hv := nv_end he (by omega); rw [hv] at hR))
  all_goals try (refine EW.eReg (id := 13) ?_; refine EW.eAssign ?_; refine EW.eAssign ?_; refine EW.eEnd ?_; (try refine EW.nm ?_))
  all_goals try (with_reducible refine EW.parkK ?_)
  all_goals try (refine EW.Park.mk ?_)
  all_goals (refine EW.eLeaveN [] hR EW.orP (by rfl) (by rfl) ?_ ?_ rfl rfl EW.nlP rfl rfl; rotate_left 1; (· ((repeat (first | exact EW.atE.nil | refine EW.atE.lt rfl ?_ | refine EW.atE.lf ?_ | refine EW.atE.b rfl EW.SameB.refl ?_ | (refine EW.atE.b rfl ?_ ?_; rotate_left 1))))))
  all_goals rfl
end Go.Proofs.Ytnmkpekfkfckoaa
