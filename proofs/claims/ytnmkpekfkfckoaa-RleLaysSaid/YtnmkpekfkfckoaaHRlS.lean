/- slices.Repeat of the empty pixel. -/
import Derived.Test.YtnmkpekfkfckoaaHImJ
namespace Go.Proofs.Ytnmkpekfkfckoaa
set_option linter.unusedSimpArgs false
set_option linter.unusedVariables false
open Go.RowKit EV
open SX (Wr Tv Qu Rm Sh Is conjP eqs_iff eqs_false)
open EW (PlL PlT PlV PlVs LfV Mm Bt Opn GV YT lpOf nums)
set_option maxRecDepth 20000
theorem bt_mask (n : Nat) (h : n < 4294967296) : Bt .u64 .and (n : Int) 4294967295 (n : Int) := by
  refine ⟨?_⟩
  show some (Value.int .u64 (IntKind.u64.wrap ((BitVec.ofInt 64 _ &&& BitVec.ofInt 64 _).toNat : Int))) = _
  have e : (BitVec.ofInt 64 (n : Int)).toNat = n := by
    rw [BitVec.toNat_ofInt]; omega
  rw [BitVec.toNat_and, e, show (BitVec.ofInt 64 4294967295).toNat = 2 ^ 32 - 1 by decide, Nat.and_two_pow_sub_one_eq_mod, IntKind.wrap_u64]
  congr 2
  omega
theorem mul64_1 (n : Nat) (w : World) (h : n ≤ 10000) : Calls Try.prog 101 #[.int .u64 1, .int .u64 n] w fun e w' => e = .returned (.tuple #[.int .u64 0, .int .u64 n]) ∧ Below w.heap.size w w' := by
  have b1 : Bt .u64 .and 1 4294967295 1 := bt_mask 1 (by omega)
  have b2 := bt_mask n (by omega)
  have b0 : Bt .u64 .and 0 4294967295 0 := bt_mask 0 (by omega)
  have f0 : Is ((n : Int).fdiv 4294967296) 0 := ⟨by rw [Int.fdiv_eq_ediv_of_nonneg _ (by omega)]; omega⟩
  have hsh : Sh .u64 32 4294967296 := ⟨by decide⟩
  have f1 : Is ((1 : Int).fdiv 4294967296) 0 := ⟨by decide⟩
  have f2 : Is ((0 : Int).fdiv 4294967296) 0 := ⟨by decide⟩
  have m1 : Wr .u64 (1 * (n : Int)) (n : Int) := by rw [Int.one_mul]; exact Wr.u64 (by omega)
  have m0 : Wr .u64 (0 * (n : Int)) 0 := by rw [Int.zero_mul]; exact Wr.u64 (by omega)
  have m2 : Wr .u64 (1 * 0) 0 := Wr.u64 (by omega)
  have m3 : Wr .u64 (0 * 0) 0 := Wr.u64 (by omega)
  have m4 : Wr .u64 (0 + 0) 0 := Wr.u64 (by omega)
  refine EW.eEnter Try.func101 rfl Try.ntmps101 ?_
  all_goals try (refine EW.nm ?_)
  all_goals try (refine EW.eReg (id := 0) ?_; refine EW.eAssign ?_; refine EW.eAssign ?_; refine EW.eEnd ?_; (try refine EW.nm ?_))
  all_goals try (refine EW.eReg (id := 1) ?_; refine EW.eMove ?_; refine EW.eAnd ?_ (hr' := b1); refine EW.eAssign ?_; refine EW.eEnd ?_; (try refine EW.nm ?_))
  all_goals try (refine EW.eReg (id := 2) ?_; refine EW.eMove ?_; refine EW.eShr ?_ (hm := hsh) (hr' := f1); refine EW.eAssign ?_; refine EW.eEnd ?_; (try refine EW.nm ?_))
  all_goals try (refine EW.eReg (id := 3) ?_; refine EW.eMove ?_; refine EW.eAnd ?_ (hr' := b2); refine EW.eAssign ?_; refine EW.eEnd ?_; (try refine EW.nm ?_))
  all_goals try (refine EW.eReg (id := 4) ?_; refine EW.eMove ?_; refine EW.eShr ?_ (hm := hsh) (hr' := f0); refine EW.eAssign ?_; refine EW.eEnd ?_; (try refine EW.nm ?_))
  all_goals try (refine EW.eReg (id := 5) ?_; refine EW.eMove ?_; refine EW.eMove ?_; refine EW.eMul ?_ (hr' := m1); refine EW.eAssign ?_; refine EW.eEnd ?_; (try refine EW.nm ?_))
  all_goals try (refine EW.eReg (id := 6) ?_; refine EW.eMove ?_; refine EW.eMove ?_; refine EW.eMul ?_ (hr' := m0); refine EW.eMove ?_; refine EW.eShr ?_ (hm := hsh) (hr' := f0); refine EW.eAdd ?_ (hr' := m4); refine EW.eAssign ?_; refine EW.eEnd ?_; (try refine EW.nm ?_))
  all_goals try (refine EW.eReg (id := 7) ?_; refine EW.eMove ?_; refine EW.eAnd ?_ (hr' := b0); refine EW.eAssign ?_; refine EW.eEnd ?_; (try refine EW.nm ?_))
  all_goals try (refine EW.eReg (id := 8) ?_; refine EW.eMove ?_; refine EW.eShr ?_ (hm := hsh) (hr' := f2); refine EW.eAssign ?_; refine EW.eEnd ?_; (try refine EW.nm ?_))
  all_goals try (refine EW.eReg (id := 9) ?_; refine EW.eMove ?_; refine EW.eMove ?_; refine EW.eMove ?_; refine EW.eMul ?_ (hr' := m2); refine EW.eAdd ?_ (hr' := m4); refine EW.eAssign ?_; refine EW.eEnd ?_; (try refine EW.nm ?_))
  all_goals try (refine EW.eReg (id := 10) ?_; refine EW.eMove ?_; refine EW.eMove ?_; refine EW.eMul ?_ (hr' := m3); refine EW.eMove ?_; refine EW.eAdd ?_ (hr' := m4); refine EW.eMove ?_; refine EW.eShr ?_ (hm := hsh) (hr' := f2); refine EW.eAdd ?_ (hr' := m4); refine EW.eAssign ?_; refine EW.eEnd ?_; (try refine EW.nm ?_))
  all_goals try (refine EW.eReg (id := 11) ?_; refine EW.eMove ?_; refine EW.eMove ?_; refine EW.eMul ?_ (hr' := m1); refine EW.eAssign ?_; refine EW.eEnd ?_; (try refine EW.nm ?_))
  all_goals try (with_reducible refine EW.parkK ?_)
  all_goals try (refine EW.Park.mk ?_)
  all_goals (refine EW.eLeaveP ?_; intro w' hW; refine ⟨?_, hW⟩)
  all_goals rfl
theorem mul_1 (n : Nat) (w : World) (h : n ≤ 10000) : Calls Try.prog 90 #[.int .u64 1, .int .u64 n] w fun e w' => e = .returned (.tuple #[.int .u64 0, .int .u64 n]) ∧ Below w.heap.size w w' := by
  have hM := fun u => mul64_1 n u h
  refine EW.eEnter Try.func90 rfl Try.ntmps90 ?_
  all_goals try (refine EW.nm ?_)
  all_goals try (refine EW.eReg (id := 0) ?_; refine EW.eAssign ?_; refine EW.eAssign ?_; refine EW.eEnd ?_; (try refine EW.nm ?_))
  all_goals try (first | refine EW.eYes (x := _) ?_ | refine EW.eNo (x := _) ?_ | (refine EW.eCond (x := _) ?_ ?_ <;> (intro hb hb'; (try dsimp only at hb'); (try (exfalso; first | omega | with_reducible exact absurd rfl hb')))))
  all_goals try (refine EW.nm ?_)
  all_goals try (refine EW.eReg (id := 1) ?_; refine EW.eMove ?_; refine EW.eConv ?_; refine EW.eMove ?_; refine EW.eConv ?_; fail "no contract of math/bits.Mul32"; refine EW.eMove ?_; (first | refine EW.eExtC ?_ | refine EW.eExtA ?_); (first | refine EW.eExtC ?_ | refine EW.eExtA ?_); refine EW.eAssign ?_; refine EW.eAssign ?_; refine EW.eEnd ?_; (try refine EW.nm ?_))
  all_goals try (refine EW.eReg (id := 2) ?_; refine EW.eMove ?_; refine EW.eConv ?_; refine EW.eMove ?_; refine EW.eConv ?_; refine EW.eAssign ?_; refine EW.eAssign ?_; refine EW.eEnd ?_; (try refine EW.nm ?_))
  all_goals try (with_reducible refine EW.parkK ?_)
  all_goals try (refine EW.eReg (id := 3) ?_; refine EW.eMove ?_; refine EW.eMove ?_; refine EW.eCall Try.call101 (fun w => hM w) ?_; refine EW.eMove ?_; (first | refine EW.eExtC ?_ | refine EW.eExtA ?_); (first | refine EW.eExtC ?_ | refine EW.eExtA ?_); refine EW.eAssign ?_; refine EW.eAssign ?_; refine EW.eEnd ?_; (try refine EW.nm ?_))
  all_goals try (refine EW.eReg (id := 4) ?_; refine EW.eMove ?_; refine EW.eMove ?_; refine EW.eAssign ?_; refine EW.eAssign ?_; refine EW.eEnd ?_; (try refine EW.nm ?_))
  all_goals try (with_reducible refine EW.parkK ?_)
  all_goals try (refine EW.Park.mk ?_)
  all_goals (refine EW.eLeaveP ?_; intro w' hW; refine ⟨?_, hW⟩)
  all_goals rfl
/-- The empty pixel. -/
abbrev pE : Px := ⟨16777216, 0, 0, 0⟩
theorem srcN_tk {c : Ctx} {σ : Sf} {x : Operand} {q k cap m : Nat} {own : Bool} {y : List Px} (hx : opv σ x = some (.c (.s q 0 k cap))) (ha : σ (.l q) = some (.l true)) (hB : σ (.b q) = some (.b (.w own (pvs y)))) (h1 : m ≤ k) (h2 : m ≤ y.length) : SrcN c σ x k m 4 ((pvs (y.take m)).map C.v) (.l q :: .b q :: opk x) := by
  have := srcN_named (c := c) (n := m) (z := 4) hx (.inl ⟨_, rfl⟩) ha hB rfl h1 (by rw [List.length_map, pvs_length]; omega)
  rwa [List.drop_zero, ← List.map_take, pvs_take] at this
theorem srcN_e {c : Ctx} {σ : Sf} {x : Operand} {q : Nat} (hx : opv σ x = some (.c (.s q 0 1 1))) (ha : σ (.l q) = some (.l true)) (hB : σ (.b q) = some (.b (.m true [.v (.int .u32 16777216), .v (.int .i64 0), .v (.int .i64 0), .v (.int .u32 0)]))) : SrcN c σ x 1 1 4 (pE.vals.map C.v) (.l q :: .b q :: opk x) :=
  srcN_named (c := c) (n := 1) (z := 4) hx (.inl ⟨_, rfl⟩) ha hB rfl (Nat.le_refl _) (Nat.le_refl _)
theorem put_one (l : List Px) : putL 0 (pE.vals.map C.v) ((pvs l).map C.v) = (pvs (putL 0 [pE] l)).map C.v := by
  rw [← putL_map]
  have := pvs_putL 0 [pE] l
  rw [Nat.zero_mul] at this
  rw [← this]; rfl
/-- How a doubled row grows. -/
theorem dbl_at {y : List Px} {k m n : Nat} (hy : y.length = n) (hk : ∀ q, q < k → y.getD q Px.zero = pE) (h1 : m ≤ k) (h2 : k + m ≤ n) : ∀ q, q < k + m → (putL k (y.take m) y).getD q Px.zero = pE := by
  intro q hq
  have hl : (y.take m).length = m := by rw [List.length_take]; omega
  have h3 := putL_get k (y.take m) y q (by omega)
  rw [List.getD_eq_getElem?_getD, h3]
  split
  · next h =>
    have := hk (q - k) (by omega)
    rw [List.getD_eq_getElem?_getD] at this
    rw [List.getElem?_take, if_pos (by omega)]; exact this
  · next h =>
    have := hk q (by omega)
    rw [List.getD_eq_getElem?_getD] at this
    exact this
theorem all_rep {y : List Px} {n : Nat} {p : Px} (hy : y.length = n) (hk : ∀ q, q < n → y.getD q Px.zero = p) : y = List.replicate n p := by
  apply List.ext_getElem?
  intro i
  rcases Nat.lt_or_ge i n with h | h
  · have := hk i h
    rw [List.getD_eq_getElem?_getD, List.getElem?_eq_getElem (by omega)] at this
    rw [List.getElem?_eq_getElem (by omega), List.getElem?_replicate, if_pos h]
    simpa using this
  · rw [List.getElem?_eq_none (by omega), List.getElem?_replicate, if_neg (by omega)]
noncomputable def WE1 : Ws := [(.l 0, .l true), (.b 0, .b (.m true [.v (.int .u32 16777216), .v (.int .i64 0), .v (.int .i64 0), .v (.int .u32 0)]))]
theorem repeat_ct (n : Nat) (h1 : 1 ≤ n) (h2 : n ≤ 4096) : CT Try.prog 73 [.c (.s 0 0 1 1), .c (.v (.int .i64 (n : Int)))] (upd EW.emp WE1) 1 2 (.c (.g 1 0 n n 4)) (upd (upd EW.emp WE1) [(.l 1, .l true), (.b 1, .b (.w true (pvs (List.replicate n pE))))]) := by
  have hM := fun u => mul_1 n u (by omega)
  have hz0 : (putL 0 [pE] (List.replicate n Px.zero)).length = n := by rw [putL_length, List.length_replicate]
  have hz1 : ∀ q, q < 1 → (putL 0 [pE] (List.replicate n Px.zero)).getD q Px.zero = pE := by
    intro q hq
    obtain rfl : q = 0 := by omega
    rw [List.getD_eq_getElem?_getD, putL_get 0 [pE] _ 0 (by rw [List.length_replicate]; simpa using h1)]
    rfl
  have hz2 := put_one (List.replicate n Px.zero)
  generalize putL 0 [pE] (List.replicate n Px.zero) = y0 at *
  refine EW.ctEnter EW.sup1 Try.func73 rfl Try.ntmps73 rfl EW.nlP ?_; intro w0 tch ini R hR
  all_goals try (refine EW.nm ?_)
  all_goals try (refine EW.eReg (id := 0) ?_; refine EW.eAssign ?_; refine EW.eEnd ?_; (try refine EW.nm ?_))
  all_goals try (refine EW.eReg (id := 1) ?_; refine EW.eMove ?_; refine EW.eLss ?_; refine EW.eEnd ?_; (try refine EW.nm ?_))
  all_goals try (first | refine EW.eYes (x := .tmp 10) ?_ | refine EW.eNo (x := .tmp 10) ?_ | (refine EW.eCond (x := .tmp 10) ?_ ?_ <;> (intro hb hb'; (try dsimp only at hb'); (try (exfalso; first | omega | with_reducible exact absurd rfl hb')))))
  all_goals try (refine EW.nm ?_)
  all_goals try (refine EW.eReg (id := 2) ?_; fail "op makeInterface"; fail "op panic"; refine EW.eEnd ?_; (try refine EW.nm ?_))
  all_goals try (refine EW.eReg (id := 3) ?_; refine EW.eMove ?_; (first | refine EW.eLenS ?_ | refine EW.eLenG ?_ | refine EW.eLenN ?_); refine EW.eConv ?_; refine EW.eMove ?_; refine EW.eConv ?_; refine EW.eCall Try.call90 (fun w => hM w) ?_; refine EW.eMove ?_; (first | refine EW.eExtC ?_ | refine EW.eExtA ?_); (first | refine EW.eExtC ?_ | refine EW.eExtA ?_); refine EW.eAssign ?_; refine EW.eAssign ?_; refine EW.eEnd ?_; (try refine EW.nm ?_))
  all_goals try (refine EW.eReg (id := 4) ?_; refine EW.eMove ?_; refine EW.eGtr ?_; refine EW.eMove ?_)
  all_goals try (refine EW.eGuard (j := 2) (o := ⟨some 24, _, _, _, _, _⟩) ?_ ?_ <;> (intro hb hb'; (try dsimp only at hb'); (try (exfalso; first | omega | with_reducible exact absurd rfl hb'))))
  all_goals try ((first | refine EW.eSkipF (j := 2) ?_ | refine EW.eSkipU (j := 2) ?_ | refine EW.eMove ?_); (first | refine EW.eSkipF (j := 2) ?_ | refine EW.eSkipU (j := 2) ?_ | refine EW.eGtr ?_); (first | refine EW.ePickT ?_ | refine EW.ePickF ?_); refine EW.eEnd ?_; (try refine EW.nm ?_))
  all_goals try (first | refine EW.eYes (x := .tmp 26) ?_ | refine EW.eNo (x := .tmp 26) ?_ | (refine EW.eCond (x := .tmp 26) ?_ ?_ <;> (intro hb hb'; (try dsimp only at hb'); (try (exfalso; first | omega | with_reducible exact absurd rfl hb')))))
  all_goals try (refine EW.nm ?_)
  all_goals try (refine EW.eReg (id := 5) ?_; fail "op makeInterface"; fail "op panic"; refine EW.eEnd ?_; (try refine EW.nm ?_))
  all_goals try (refine EW.eReg (id := 6) ?_; refine EW.eMove ?_; refine EW.eConv ?_; refine EW.eMakeSlice (len := n) (cap := n) (by' := 32) (Z := pvs (List.replicate n Px.zero)) ?_ (e3 := ⟨times_px n⟩); refine EW.eAssign ?_; refine EW.eEnd ?_; (try refine EW.nm ?_))
  all_goals try (refine EW.eReg (id := 7) ?_; refine EW.eMove ?_; refine EW.eMove ?_; refine EW.eCopyS (z := 4) (n := 1) (vs := pE.vals.map C.v) (l' := (pvs y0).map C.v) ?_ (hs := srcN_e (by rfl) (by rfl) (by rfl)) (hn := Nat.min_eq_left (by omega)) (hle := by rw [List.length_map, pvs_length, List.length_replicate]; omega) (e2 := ⟨hz2⟩); refine EW.eAssign ?_; refine EW.eEnd ?_; (try refine EW.nm ?_))
  all_goals (refine EW.eToW 10 true (pvs y0) ?_)
  all_goals first | (fail_if_success (refine EW.eUnroll 1 ?_)) | (refine EW.eLoopD [1000010, 8, 34, 35, 36, 37, 38, 39, 40, 41, 42, 43, 44, 45, 46] 11 (fun j : {x : Nat × List Px // 1 ≤ x.1 ∧ x.1 ≤ n ∧ x.2.length = n ∧ ∀ q, q < x.1 → x.2.getD q Px.zero = pE} => [(.t 8, .v (.c (.v (.int .i64 j.1.1)))), (.b 10, .b (.w true (pvs j.1.2)))]) (fun j => n - j.1.1) (⟨(1, y0), by omega, h1, hz0, hz1⟩) (by ((repeat (first | exact EW.subW.nil | refine EW.subW.cons rfl ?_ | refine EW.subW.conv rfl ?_ (by exact EW.kvI (by omega)) | refine EW.subW.conv rfl ?_)); (first | done | fail))) ?_; rintro hcl8 ⟨⟨k, y⟩, hk1, hk2, hyl, hyp⟩; (try dsimp only))
  all_goals try (refine EW.nm ?_)
  all_goals try (refine EW.eReg (id := 8) ?_; refine EW.eMove ?_; refine EW.eMove ?_; (first | refine EW.eLenS ?_ | refine EW.eLenG ?_ | refine EW.eLenN ?_); refine EW.eLss ?_; refine EW.eEnd ?_; (try refine EW.nm ?_))
  all_goals try (first | refine EW.eYes (x := .tmp 37) ?_ | refine EW.eNo (x := .tmp 37) ?_ | (refine EW.eCond (x := .tmp 37) ?_ ?_ <;> (intro hb hb'; (try dsimp only at hb'); (try (exfalso; first | omega | with_reducible exact absurd rfl hb')))))
  all_goals try (refine EW.nm ?_)
  all_goals (try ((try dsimp only at hk1 hk2 hyl hyp); have hkn : k < n := (by omega); obtain ⟨m, hm⟩ : ∃ m, Nat.min k (n - k) = m := ⟨_, rfl⟩; have hm' : min k (n - k) = m := hm; have hm1 : m ≤ k := (by omega); have hm2 : k + m ≤ n := (by omega); have hm3 : 1 ≤ m := (by omega); have hdb := dbl_at hyl hyp hm1 hm2; have hpl := putL_length k (y.take m) y; have hpt : putL (k * 4) ((pvs (y.take m)).map C.v) ((pvs y).map C.v) = (pvs (putL k (y.take m) y)).map C.v := (by rw [← putL_map, pvs_putL]); have htl : (y.take m).length = m := (by rw [List.length_take]; omega)))
  all_goals try (refine EW.eReg (id := 9) ?_; refine EW.eMove ?_; refine EW.eMove ?_; refine EW.eMove ?_; (first | refine EW.eSliceS (z := 4) ?_ | refine EW.eSliceG (z := 4) ?_ | refine EW.eSliceN (z := 4) ?_); refine EW.eMove ?_; refine EW.eMove ?_; (first | refine EW.eSliceS (z := 4) ?_ | refine EW.eSliceG (z := 4) ?_ | refine EW.eSliceN (z := 4) ?_); refine EW.eCopyS (z := 4) (n := m) (vs := (pvs (y.take m)).map C.v) (l' := (pvs (putL k (y.take m) y)).map C.v) ?_ (hs := srcN_tk (by rfl) (by rfl) (by rfl) hm1 (by omega)) (hn := hm) (hvl := by rw [List.length_map, pvs_length, htl]) (hle := by rw [List.length_map, pvs_length]; omega) (e2 := ⟨hpt⟩); refine EW.eAdd ?_; refine EW.eAssign ?_; refine EW.eDraw ?_; (try refine EW.nm ?_))
  all_goals (try (refine EW.eSameBK 10 (.w true (pvs (putL k (y.take m) y))) (.inr ⟨_, _, rfl, rfl⟩) ?_))
  all_goals first | (fail_if_success (with_reducible refine EW.isLater ?_)) | (refine EW.eLaterD (⟨(k + m, putL k (y.take m) y), by dsimp only; omega, hm2, by dsimp only; rw [hpl]; exact hyl, hdb⟩) (by dsimp only; omega) (by ((repeat (first | exact EW.subW.nil | refine EW.subW.cons rfl ?_ | refine EW.subW.conv rfl ?_ (by exact EW.kvI (by omega)) | refine EW.subW.conv rfl ?_)); (first | done | fail))) hcl8)
  all_goals try (refine EW.nm ?_)
  all_goals try (refine EW.eReg (id := 10) ?_; refine EW.eMove ?_; refine EW.eAssign ?_; refine EW.eEnd ?_; (try refine EW.nm ?_))
  all_goals (try ((try dsimp only at hk1 hk2 hyl hyp); refine EW.eToGK 4 10 4 ?_))
  all_goals try (with_reducible refine EW.parkK ?_)
  all_goals try (refine EW.Park.mk ?_)
  all_goals ((try dsimp only at hk1 hk2 hyl hyp); have hie : k = n := (by omega); have hyn : y = List.replicate n pE := all_rep hyl (fun q hq => hyp q (by omega)); subst hyn)
  all_goals (refine EW.eLeaveN [10] hR EW.orP (by rfl) (by rfl) ?_ ?_ rfl rfl EW.nlP rfl rfl; rotate_left 1; (· ((repeat (first | exact EW.atE.nil | refine EW.atE.lt rfl ?_ | refine EW.atE.lf ?_ | refine EW.atE.b rfl EW.SameB.refl ?_ | (refine EW.atE.b rfl ?_ ?_; rotate_left 1))))))
  all_goals rfl
end Go.Proofs.Ytnmkpekfkfckoaa
