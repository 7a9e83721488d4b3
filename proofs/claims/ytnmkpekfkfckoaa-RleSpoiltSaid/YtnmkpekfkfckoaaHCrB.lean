/- Sums of bytes: bits that are turned within 32 that follow one another are seen: plain laws. -/
import Derived.Test.YtnmkpekfkfckoaaHRlR
namespace Go.Proofs.Ytnmkpekfkfckoaa
open Go.RowKit
set_option maxRecDepth 20000
theorem shN_xor (a b : Nat) : shN (a ^^^ b) = shN a ^^^ shN b := by
  have h : ∀ n : Nat, n % 2 = if n.testBit 0 then 1 else 0 := fun n => by
    rw [Nat.testBit_zero]; by_cases h : n % 2 = 1 <;> simp [h]; omega
  unfold shN
  rw [xor_div2]
  have e : ∀ P Q X Y : Nat, X ^^^ P ^^^ (Y ^^^ Q) = X ^^^ Y ^^^ (P ^^^ Q) := fun P Q X Y => by
    apply Nat.eq_of_testBit_eq
    intro i
    simp only [Nat.testBit_xor]
    cases X.testBit i <;> cases Y.testBit i <;> cases P.testBit i <;> cases Q.testBit i <;> rfl
  rw [e]
  congr 1
  rw [h (a ^^^ b), h a, h b, Nat.testBit_xor]
  cases a.testBit 0 <;> cases b.testBit 0 <;> simp
theorem xor_mod2' (a b : Nat) : (a ^^^ b) % 2 = a % 2 ^^^ b % 2 := by
  have h : ∀ n : Nat, n % 2 = if n.testBit 0 then 1 else 0 := fun n => by
    rw [Nat.testBit_zero]; by_cases h : n % 2 = 1 <;> simp [h]; omega
  rw [h (a ^^^ b), h a, h b, Nat.testBit_xor]
  cases a.testBit 0 <;> cases b.testBit 0 <;> simp
theorem xor4 (P Q X Y : Nat) : X ^^^ P ^^^ (Y ^^^ Q) = X ^^^ Y ^^^ (P ^^^ Q) := by
  apply Nat.eq_of_testBit_eq
  intro i
  simp only [Nat.testBit_xor]
  cases X.testBit i <;> cases Y.testBit i <;> cases P.testBit i <;> cases Q.testBit i <;> rfl
theorem bitN_xor : ∀ (k n m c d : Nat), bitN k n c ^^^ bitN k m d = bitN k (n ^^^ m) (c ^^^ d)
  | 0, n, m, c, d => rfl
  | k + 1, n, m, c, d => by
    rw [bitN, bitN, bitN, bitN_xor k, ← shN_xor, xor4, xor_mod2', xor_div2]
theorem bitN_add : ∀ (j k n c : Nat), bitN (j + k) n c = bitN k (bitN j n c) (c / 2 ^ j)
  | 0, k, n, c => by simp [bitN]
  | j + 1, k, n, c => by
    rw [show j + 1 + k = (j + k) + 1 by omega, bitN, bitN, bitN_add j k, Nat.div_div_eq_div_mul, Nat.pow_succ, Nat.mul_comm 2]
theorem bitN_mod : ∀ (k n c : Nat), bitN k n (c % 2 ^ k) = bitN k n c
  | 0, n, c => rfl
  | k + 1, n, c => by
    have e1 : c % 2 ^ (k + 1) % 2 = c % 2 := Nat.mod_mod_of_dvd c ⟨2 ^ k, by rw [Nat.pow_succ, Nat.mul_comm]⟩
    have e2 : c % 2 ^ (k + 1) / 2 = c / 2 % 2 ^ k := by
      rw [Nat.pow_succ, Nat.mul_comm, Nat.mod_mul_right_div_self]
    rw [bitN, bitN, e1, e2, bitN_mod k]
/-- Bytes as one number, the first ones least. -/
def numL : List Int → Nat
  | [] => 0
  | b :: bs => b.toNat + 256 * numL bs
theorem numL_lt : ∀ {bs : List Int}, By bs → numL bs < 2 ^ (8 * bs.length)
  | [], _ => by simp [numL]
  | b :: bs, h => by
    have h1 := h b (by simp)
    have h2 := numL_lt (bs := bs) fun x hx => h x (by simp [hx])
    rw [List.length_cons, Nat.mul_add, Nat.pow_add, numL, show 2 ^ (8 * 1) = 256 by decide]
    omega
theorem crcN_num : ∀ (bs : List Int) (n : Nat), By bs → crcN n bs = bitN (8 * bs.length) n (numL bs)
  | [], n, _ => rfl
  | b :: bs, n, h => by
    have h1 := h b (by simp)
    have ih := crcN_num bs (bitN 8 n b.toNat) fun x hx => h x (by simp [hx])
    have e : crcN n (b :: bs) = crcN (bitN 8 n b.toNat) bs := rfl
    have e1 : (b.toNat + 256 * numL bs) / 2 ^ 8 = numL bs := by omega
    have e2 : bitN 8 n (b.toNat + 256 * numL bs) = bitN 8 n b.toNat := by
      rw [← bitN_mod 8 n (b.toNat + 256 * numL bs), show (b.toNat + 256 * numL bs) % 2 ^ 8 = b.toNat by omega]
    rw [e, ih, List.length_cons, show 8 * (bs.length + 1) = 8 + 8 * bs.length by omega, numL, bitN_add, e1, e2]
theorem crcN_app (n : Nat) (a b : List Int) : crcN n (a ++ b) = crcN (crcN n a) b := by unfold crcN; rw [List.foldl_append]
theorem ones_xor {r : Nat} (h : r < 4294967296) : r ^^^ (4294967295 - r) = 4294967295 := by
  apply Nat.eq_of_testBit_eq
  intro i
  have h2 := Nat.testBit_two_pow_sub_succ (n := 32) h i
  rw [show 2 ^ 32 - (r + 1) = 4294967295 - r by omega] at h2
  rw [Nat.testBit_xor, h2, show (4294967295 : Nat) = 2 ^ 32 - 1 by decide, Nat.testBit_two_pow_sub_one]
  by_cases hi : i < 32
  · simp [hi]
  · have : r.testBit i = false := Nat.testBit_lt_two_pow (Nat.lt_of_lt_of_le (show r < 2 ^ 32 from h) (Nat.pow_le_pow_right (show 0 < 2 by decide) (show 32 ≤ i by omega)))
    simp [hi, this]
theorem numL_seal (s : Nat) (h : s < 4294967296) : numL (sealB s) = s := by
  simp only [numL, sealB, Int.toNat_natCast]; omega
theorem sealB_by (s : Nat) (h : s < 4294967296) : By (sealB s) := fun x hx => by
  simp only [sealB, List.mem_cons, List.not_mem_nil, or_false] at hx
  rcases hx with rfl | rfl | rfl | rfl <;> omega
/-- What was sealed comes to one number. -/
theorem crc_seal (q : List Int) : crcN 4294967295 (sealL q) = shK 32 4294967295 := by
  have hr := crcN_lt q (n := 4294967295) (by omega)
  have hs := sumN_lt q
  rw [sealL, crcN_app, crcN_num _ _ (sealB_by _ hs), numL_seal _ hs]
  have := bit_is 32 (crcN 4294967295 q) (sumN q)
  rw [Nat.div_eq_of_lt (show sumN q < 2 ^ 32 from hs), Nat.xor_zero] at this
  rw [show 8 * (sealB (sumN q)).length = 32 from rfl, ← this]
  unfold sumN
  rw [ones_xor hr]
theorem shN_zero {n : Nat} (h : n < 4294967296) (h0 : shN n = 0) : n = 0 := by
  unfold shN at h0
  split at h0
  · next h1 =>
    have : n / 2 = 3988292384 := by
      have e := congrArg (fun x => x ^^^ 3988292384) h0
      simp only [Nat.xor_assoc, Nat.xor_self, Nat.xor_zero, Nat.zero_xor] at e
      exact e
    omega
  · rw [Nat.xor_zero] at h0; omega
theorem shK_zero : ∀ (k f m : Nat), m < 4294967296 → shK k (m * 2 ^ f) = 0 → m = 0
  | 0, f, m, _, h => by
    have hp : 0 < 2 ^ f := Nat.pow_pos (by omega)
    rw [shK] at h
    rcases Nat.mul_eq_zero.1 h with h | h
    · exact h
    · omega
  | k + 1, 0, m, hm, h => by
    rw [Nat.pow_zero, Nat.mul_one, shK] at h
    have := shK_zero k 0 (shN m) (shN_lt hm) (by rw [Nat.pow_zero, Nat.mul_one]; exact h)
    exact shN_zero hm this
  | k + 1, f + 1, m, hm, h => by
    have e : shN (m * 2 ^ (f + 1)) = m * 2 ^ f := by
      unfold shN
      rw [Nat.pow_succ, ← Nat.mul_assoc]
      rw [if_neg (by omega), Nat.xor_zero]; omega
    rw [shK, e] at h
    exact shK_zero k f m hm h
theorem numL_inj : ∀ {a b : List Int}, By a → By b → a.length = b.length → numL a = numL b → a = b
  | [], [], _, _, _, _ => rfl
  | [], _ :: _, _, _, h, _ => by simp at h
  | _ :: _, [], _, _, h, _ => by simp at h
  | x :: a, y :: b, ha, hb, hl, h => by
    have h1 := ha x (by simp)
    have h2 := hb y (by simp)
    simp only [numL] at h
    have := numL_inj (a := a) (b := b) (fun z hz => ha z (by simp [hz])) (fun z hz => hb z (by simp [hz])) (by simpa using hl) (by omega)
    rw [this]
    congr 1
    omega
/-- Turned within 32 bits: sealed no more, or the same. -/
theorem burst {q p C : List Int} {M f : Nat} (hq : By (sealL q)) (hC : By C) (hl : C.length = (sealL q).length) (hM : M < 4294967296) (hx : numL C = numL (sealL q) ^^^ M * 2 ^ f) (hp : C = sealL p) : C = sealL q := by
  have e1 := crc_seal q
  have e2 := crc_seal p
  rw [← hp] at e2
  rw [crcN_num _ _ hq] at e1
  rw [crcN_num _ _ hC, hl] at e2
  have l1 := numL_lt hq
  have l2 := numL_lt hC
  rw [hl] at l2
  have e3 := bitN_xor (8 * (sealL q).length) 4294967295 4294967295 (numL (sealL q)) (numL C)
  rw [e1, e2, Nat.xor_self, Nat.xor_self] at e3
  have e4 : numL (sealL q) ^^^ numL C = M * 2 ^ f := by rw [hx, ← Nat.xor_assoc, Nat.xor_self, Nat.zero_xor]
  have e5 := bit_is (8 * (sealL q).length) 0 (numL (sealL q) ^^^ numL C)
  rw [← e3, Nat.zero_xor, Nat.div_eq_of_lt (Nat.xor_lt_two_pow l1 l2), Nat.zero_xor, e4] at e5
  have := shK_zero _ _ _ hM e5
  rw [this, Nat.zero_mul, Nat.xor_zero] at hx
  exact numL_inj hC hq hl hx
theorem numL_bit : ∀ (bs : List Int) (i : Nat), By bs → (numL bs).testBit i = (bs.getD (i / 8) 0).toNat.testBit (i % 8)
  | [], i, _ => by simp [numL]
  | b :: bs, i, h => by
    have h1 := h b (by simp)
    rw [numL, Nat.add_comm, show 256 = 2 ^ 8 by decide, Nat.testBit_two_pow_mul_add _ (show b.toNat < 2 ^ 8 by omega)]
    split
    · next hi => rw [Nat.div_eq_of_lt hi, Nat.mod_eq_of_lt hi]; rfl
    · next hi =>
      rw [numL_bit bs (i - 8) fun x hx => h x (by simp [hx])]
      rw [show i / 8 = (i - 8) / 8 + 1 by omega, show (i - 8) % 8 = i % 8 by omega, List.getD_cons_succ]
/-- One bit is turned. -/
theorem turn_num {c : List Int} {j r : Nat} {x : Nat} (hc : By c) (hj : j < c.length) (hr : r < 8) (hx : c.getD j 0 = (x : Int)) : By (c.set j ((x ^^^ 2 ^ r : Nat) : Int)) ∧ numL (c.set j ((x ^^^ 2 ^ r : Nat) : Int)) = numL c ^^^ 2 ^ (8 * j + r) := by
  have hx8 : x < 256 := by
    have := hc (c.getD j 0) (by rw [List.getD_eq_getElem?_getD, List.getElem?_eq_getElem hj]; exact List.getElem_mem hj)
    omega
  have hr8 : 2 ^ r < 2 ^ 8 := Nat.pow_lt_pow_right (by omega) hr
  have hxr : x ^^^ 2 ^ r < 2 ^ 8 := Nat.xor_lt_two_pow hx8 hr8
  have hby : By (c.set j ((x ^^^ 2 ^ r : Nat) : Int)) := fun y hy => by
    rcases List.mem_or_eq_of_mem_set hy with h | h
    · exact hc y h
    · omega
  refine ⟨hby, Nat.eq_of_testBit_eq fun i => ?_⟩
  rw [numL_bit _ _ hby, Nat.testBit_xor, numL_bit _ _ hc, Nat.testBit_two_pow]
  rw [List.getD_eq_getElem?_getD, List.getElem?_set]
  by_cases h : j = i / 8
  · rw [if_pos h, if_pos hj, ← h, hx]
    simp only [Option.getD_some, Int.toNat_natCast, Nat.testBit_xor, Nat.testBit_two_pow]
    congr 1
    by_cases h2 : r = i % 8
    · rw [decide_eq_true h2, decide_eq_true (by omega)]
    · rw [decide_eq_false h2, decide_eq_false (by omega)]
  · rw [if_neg h, decide_eq_false (by omega), Bool.xor_false, List.getD_eq_getElem?_getD]
/-- Turned within so many bits, from a place on. -/
def Within (b : List Int) (f i : Nat) (c : List Int) : Prop := By c ∧ c.length = b.length ∧ ∃ M, M < 2 ^ i ∧ numL c = numL b ^^^ M * 2 ^ f
theorem within_0 {b : List Int} (h : By b) (f : Nat) : Within b f 0 b := ⟨h, rfl, 0, by omega, by rw [Nat.zero_mul, Nat.xor_zero]⟩
theorem within_no {b c : List Int} {f i : Nat} (h : Within b f i c) : Within b f (i + 1) c := by
  obtain ⟨h1, h2, M, h3, h4⟩ := h
  exact ⟨h1, h2, M, by rw [Nat.pow_succ]; omega, h4⟩
theorem within_turn {b c : List Int} {f i x : Nat} (h : Within b f i c) (hf : f + i < 8 * b.length) (hx : c.getD ((f + i) / 8) 0 = (x : Int)) : Within b f (i + 1) (c.set ((f + i) / 8) ((x ^^^ 2 ^ ((f + i) % 8) : Nat) : Int)) := by
  obtain ⟨h1, h2, M, h3, h4⟩ := h
  obtain ⟨t1, t2⟩ := turn_num (j := (f + i) / 8) (r := (f + i) % 8) h1 (by omega) (by omega) hx
  refine ⟨t1, by rw [List.length_set]; exact h2, M ^^^ 2 ^ i, ?_, ?_⟩
  · exact Nat.xor_lt_two_pow (by rw [Nat.pow_succ]; omega) (Nat.pow_lt_pow_right (by omega) (by omega))
  · rw [t2, h4, show 8 * ((f + i) / 8) + (f + i) % 8 = f + i by omega]
    have e : (M ^^^ 2 ^ i) * 2 ^ f = M * 2 ^ f ^^^ 2 ^ (f + i) := by
      rw [← Nat.shiftLeft_eq, Nat.shiftLeft_xor_distrib, Nat.shiftLeft_eq, Nat.shiftLeft_eq, ← Nat.pow_add, Nat.add_comm i f]
    rw [e, Nat.xor_assoc]
/-- Bytes of which bits were turned so: the same ones, or no sealed ones. -/
theorem within_open {q c : List Int} {f i : Nat} (hq : By q) (h : Within (sealL q) f i c) (hi : i ≤ 32) : c = sealL q ∨ ¬ c = sealL (body c) := by
  obtain ⟨h1, h2, M, h3, h4⟩ := h
  have hM : M < 4294967296 := Nat.lt_of_lt_of_le h3 (Nat.pow_le_pow_right (show 0 < 2 by omega) hi)
  by_cases h : c = sealL (body c)
  · exact .inl (burst (seal_by hq) h1 h2 hM h4 h)
  · exact .inr h
end Go.Proofs.Ytnmkpekfkfckoaa
