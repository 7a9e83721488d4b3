/- The document's matrices: products with vectors, products. -/
import Derived.Test.YtgjbhocahpplbaaMt1
namespace Go.Proofs.Ytgjbhocahpplbaa
set_option linter.unusedSimpArgs false
set_option linter.unusedVariables false
open Go.RowKit EV
open SX (Wr Tv Qu Rm Sh Is conjP eqs_iff eqs_false)
open EW (PlL PlT PlV PlVs LfV Mm Bt Opn GV nums)
set_option maxRecDepth 20000
def outP (n : Nat) (d : Nat → Bool) (f : Nat → Int) : List Int := (List.range n).map fun k => if d k then f k else 0
theorem outP_len (n : Nat) (d : Nat → Bool) (f : Nat → Int) : (outP n d f).length = n := by simp [outP]
instance (n : Nat) (d : Nat → Bool) (f : Nat → Int) : EW.LenI (outP n d f) n := ⟨outP_len n d f⟩
theorem outP_get {n k : Nat} (d : Nat → Bool) (f : Nat → Int) (h : k < n) : (outP n d f).getD k 0 = if d k then f k else 0 := by
  simp [outP, List.getD_eq_getElem?_getD, List.getElem?_range h]
theorem outP_congr {n : Nat} {d d' : Nat → Bool} {f f' : Nat → Int} (h : ∀ k, k < n → d k = d' k ∧ (d k = true → f k = f' k)) : outP n d f = outP n d' f' := by
  unfold outP; apply List.map_congr_left; intro k hk
  obtain ⟨h1, h2⟩ := h k (List.mem_range.1 hk)
  rw [← h1]; split
  · exact h2 (by assumption)
  · rfl
theorem outP_set {n k : Nat} {d d' : Nat → Bool} {f : Nat → Int} (h : ∀ j, j < n → d' j = (d j || j == k)) : (outP n d f).set k (f k) = outP n d' f := by
  apply List.ext_getElem?
  intro j
  rw [List.getElem?_set, outP_len]
  by_cases hj : j < n
  · have h1 := h j hj
    by_cases hk : k = j
    · subst hk; rw [if_pos rfl, if_pos hj]; simp [outP, List.getElem?_range hj, h1]
    · rw [if_neg hk]; simp [outP, List.getElem?_range hj, h1, Ne.symm hk]
  · rw [List.getElem?_eq_none (l := outP n d' f) (by rw [outP_len]; omega)]
    by_cases hk : k = j
    · subst hk; rw [if_pos rfl, if_neg hj]
    · rw [if_neg hk, List.getElem?_eq_none (by rw [outP_len]; omega)]
abbrev row (m : List Int) (i : Nat) : List Int := (m.drop (i * 4)).take 4
/-- A matrix whose first row is v. -/
def vec16 (v : List Int) : List Int := v ++ [0, 0, 0, 0, 0, 0, 0, 0, 0, 0, 0, 0]
theorem len4 {v : List Int} (h : v.length = 4) : ∃ a b c d, v = [a, b, c, d] := by
  match v, h with
  | [a, b, c, d], _ => exact ⟨a, b, c, d, rfl⟩
theorem bvec (a b c d : Int) : Is (putL 0 ((nums .i64 [a, b, c, d]).map C.v) (List.map C.v [.int .i64 0, .int .i64 0, .int .i64 0, .int .i64 0, .int .i64 0, .int .i64 0, .int .i64 0, .int .i64 0, .int .i64 0, .int .i64 0, .int .i64 0, .int .i64 0, .int .i64 0, .int .i64 0, .int .i64 0, .int .i64 0])) ((nums .i64 (vec16 [a, b, c, d])).map C.v) := ⟨rfl⟩
def appOk (m v : List Int) : Prop := within 4611686018427387904 m ∧ within 4611686018427387904 (vec16 v) ∧ ∀ i, i < 4 → sumOk (row m i) v
instance (m v : List Int) : Decidable (appOk m v) := by unfold appOk; infer_instance
def appV (m v : List Int) : List Int := if appOk m v then outP 4 (fun _ => true) (fun k => dq (row m k) v) else [0, 0, 0, 0]
def appE (m v : List Int) : Int := if appOk m v then 0 else 30
theorem row_get {m : List Int} {i k : Nat} (hk : k < 4) : (row m i).getD k 0 = m.getD (i * 4 + k) 0 := by
  simp only [row, List.getD_eq_getElem?_getD, List.getElem?_take, List.getElem?_drop, if_pos hk]
theorem row_len {m : List Int} {i : Nat} (hi : i < 4) (h : m.length = 16) : (row m i).length = 4 := by simp [row]; omega
theorem row_ok {m : List Int} (i : Nat) (h : Ok64 m) : Ok64 (row m i) := fun k => by
  rcases Nat.lt_or_ge k 4 with hk | hk
  · rw [row_get hk]; exact h _
  · have : (row m i).getD k 0 = 0 := by
      simp only [row, List.getD_eq_getElem?_getD, List.getElem?_take, if_neg (show ¬ k < 4 by omega)]; rfl
    rw [this]; omega
theorem ok_next {m v : List Int} {i : Nat} (h : ∀ k, k < i → sumOk (row m k) v) (h' : okQ (dq (row m i) v)) : ∀ k, k < i + 1 → sumOk (row m k) v := fun k hk => by
  rcases Nat.lt_or_ge k i with h1 | h1
  · exact h k h1
  · obtain rfl : k = i := by omega
    exact h'
theorem app_next {m v : List Int} {i : Nat} (h : okQ (dq (row m i) v)) : nums .i64 ((outP 4 (fun k => decide (k < i)) (fun k => dq (row m k) v)).set i (valQ (dq (row m i) v))) = nums .i64 (outP 4 (fun k => decide (k < i + 1)) (fun k => dq (row m k) v)) := by
  rw [valQ, if_pos h, outP_set (f := fun k => dq (row m k) v) (d' := fun k => decide (k < i + 1))]
  intro j _
  rw [Bool.eq_iff_iff]; simp; omega
theorem app_no {m v : List Int} (h : ¬ appOk m v) : Ending.returned (.tuple #[.agg #[.int .i64 0, .int .i64 0, .int .i64 0, .int .i64 0], .int .i64 30]) = Ending.returned (.tuple #[Nm (appV m v), .int .i64 (appE m v)]) := by
  rw [appV, appE, if_neg h, if_neg h]; rfl
theorem app_yes {m v : List Int} (h : appOk m v) : Ending.returned (.tuple #[Nm (outP 4 (fun k => decide (k < 4)) (fun k => dq (row m k) v)), .int .i64 0]) = Ending.returned (.tuple #[Nm (appV m v), .int .i64 (appE m v)]) := by
  have e : outP 4 (fun k => decide (k < 4)) (fun k => dq (row m k) v) = outP 4 (fun _ => true) (fun k => dq (row m k) v) :=
    outP_congr fun k hk => ⟨by simpa using hk, fun _ => rfl⟩
  rw [appV, appE, if_pos h, if_pos h, e]
theorem rapply (m v : List Int) (w : World) (hm : Ok64 m) (hv : Ok64 v) (lm : m.length = 16) (lv : v.length = 4) : Calls Try.prog 20 #[Nm m, Nm v] w fun e w' => e = .returned (.tuple #[Nm (appV m v), .int .i64 (appE m v)]) ∧ Below w.heap.size w w' := by
  obtain ⟨v0, v1, v2, v3, rfl⟩ := len4 lv
  have hz : Decidable (within 4611686018427387904 m) := inferInstance
  refine EW.eEnter Try.func20 rfl Try.ntmps20 ?_
  all_goals try (refine EW.nm ?_)
  all_goals try ((first | refine EW.eRegL (id := 0) ?_ | refine EW.eReg (id := 0) ?_); refine EW.eBox ?_; refine EW.eBox ?_; refine EW.eAlloc ?_; refine EW.eAssign ?_; refine EW.eEnd ?_; (try refine EW.nm ?_))
  all_goals try ((first | refine EW.eRegL (id := 1) ?_ | refine EW.eReg (id := 1) ?_); refine EW.eLoadA (k := 16) ?_; (first | refine EW.eCall Try.call22 (fun w => rwithin m 4611686018427387904 w lm (by omega) (by omega)) ?_ | refine EW.eCall Try.call22 (fun w => rwithin (vec16 [v0, v1, v2, v3]) 4611686018427387904 w rfl (by omega) (by omega)) ?_); refine EW.eAssign ?_; refine EW.eEnd ?_; (try refine EW.nm ?_))
  all_goals try ((first | refine EW.eRegL (id := 2) ?_ | refine EW.eReg (id := 2) ?_); refine EW.eLoadA (k := 4) ?_; refine EW.eBuild ?_ (hl := bvec v0 v1 v2 v3); (first | refine EW.eCall Try.call22 (fun w => rwithin m 4611686018427387904 w lm (by omega) (by omega)) ?_ | refine EW.eCall Try.call22 (fun w => rwithin (vec16 [v0, v1, v2, v3]) 4611686018427387904 w rfl (by omega) (by omega)) ?_); refine EW.eAssign ?_; refine EW.eEnd ?_; (try refine EW.nm ?_))
  all_goals try ((first | refine EW.eRegL (id := 3) ?_ | refine EW.eReg (id := 3) ?_); refine EW.eMove ?_; refine EW.eNot ?_; refine EW.eMove ?_)
  all_goals try (refine EW.eGuard (j := 2) (o := ⟨some 20, _, _, _, _, _⟩) ?_ ?_ <;> (intro hb hb'; (try dsimp only at hb'); (try (exfalso; first | omega | with_reducible exact absurd rfl hb'))))
  all_goals try ((first | refine EW.eSkipF (j := 2) ?_ | refine EW.eSkipU (j := 2) ?_ | refine EW.eMove ?_); (first | refine EW.eSkipF (j := 2) ?_ | refine EW.eSkipU (j := 2) ?_ | refine EW.eNot ?_); (first | refine EW.ePickT ?_ | refine EW.ePickF ?_); refine EW.eEnd ?_; (try refine EW.nm ?_))
  all_goals try (first | refine EW.eYes (x := Operand.tmp 22) ?_ | refine EW.eNo (x := Operand.tmp 22) ?_ | (refine EW.eCond (x := Operand.tmp 22) ?_ ?_ <;> (intro hb hb'; (try dsimp only at hb'); (try (exfalso; first | omega | with_reducible exact absurd rfl hb')))))
  all_goals try (refine EW.nm ?_)
  all_goals try ((first | refine EW.eRegL (id := 4) ?_ | refine EW.eReg (id := 4) ?_); refine EW.eBuild (place := fun i => some (i * 1, 1)) ?_; (first | refine EW.eStoreW (k := 4) ?_ | refine EW.eStore (k := 4) ?_); refine EW.eAssign ?_; refine EW.eEnd ?_; (try refine EW.nm ?_))
  all_goals try ((first | refine EW.eRegL (id := 5) ?_ | refine EW.eReg (id := 5) ?_); refine EW.eBuild (place := fun i => some (i * 1, 1)) ?_; refine EW.eAlloc ?_; (first | refine EW.eStoreW (k := 4) ?_ | refine EW.eStore (k := 4) ?_); refine EW.eEnd ?_; (try refine EW.nm ?_))
  all_goals (try refine EW.eToW 40 true (nums .i64 (outP 4 (fun _ => false) (fun k => dq (row m k) [v0, v1, v2, v3]))) ?_)
  all_goals try ((first | refine EW.eRegL (id := 6) ?_ | refine EW.eReg (id := 6) ?_); refine EW.eAssign ?_; refine EW.eEnd ?_; (try refine EW.nm ?_))
  all_goals first | (fail_if_success (refine EW.eUnroll 1 ?_)) | (refine EW.eLoopD [5, 9, 10, 11, 25, 26, 27, 28, 29, 30, 31, 32, 33, 34, 35, 36, 37, 38, 39, 40, 41, 42] 1000000 (fun j : {i : Nat // i ≤ 4 ∧ ∀ k, k < i → sumOk (row m k) [v0, v1, v2, v3]} => [(.t 9, .v (.c (.v (.int .i64 (j.1 : Int))))), (.b 40, .b (.w true (nums .i64 (outP 4 (fun k => decide (k < j.1)) (fun k => dq (row m k) [v0, v1, v2, v3])))))]) (fun j => 4 - j.1) (⟨0, by omega, by intro k h; omega⟩) (by ((repeat (first | exact EW.subW.nil | refine EW.subW.cons rfl ?_ | refine EW.subW.conv rfl ?_ (by first | exact EW.kvW (app_next (by assumption)) | exact EW.kvW (by simp)) | refine EW.subW.conv rfl ?_)); (first | done | fail))) ?_; rintro hcl7 ⟨i, hi, hk⟩; (try dsimp only))
  all_goals try (refine EW.nm ?_)
  all_goals try ((first | refine EW.eRegL (id := 7) ?_ | refine EW.eReg (id := 7) ?_); refine EW.eMove ?_; refine EW.eLss ?_; refine EW.eEnd ?_; (try refine EW.nm ?_))
  all_goals try (first | refine EW.eYes (x := Operand.tmp 26) ?_ | refine EW.eNo (x := Operand.tmp 26) ?_ | (refine EW.eCond (x := Operand.tmp 26) ?_ ?_ <;> (intro hb hb'; (try dsimp only at hb'); (try (exfalso; first | omega | with_reducible exact absurd rfl hb')))))
  all_goals try (refine EW.nm ?_)
  all_goals try ((first | refine EW.eRegL (id := 9) ?_ | refine EW.eReg (id := 9) ?_); refine EW.eMove ?_; refine EW.eIndexAddr (z := 4) ?_; refine EW.eLoadA (k := 4) ?_; refine EW.eLoadA (k := 4) ?_; refine EW.eCall Try.call26 (fun w => rsum (row m i) [v0, v1, v2, v3] w (row_ok i hm) hv (row_len (by omega) lm) rfl) ?_; refine EW.eMove ?_; (first | refine EW.eExtC ?_ | refine EW.eExtA ?_); (first | refine EW.eExtC ?_ | refine EW.eExtA ?_); refine EW.eAssign ?_; refine EW.eAssign ?_; refine EW.eDraw ?_; (try refine EW.nm ?_))
  all_goals try ((first | refine EW.eRegL (id := 10) ?_ | refine EW.eReg (id := 10) ?_); refine EW.eMove ?_; refine EW.eNot ?_; refine EW.eEnd ?_; (try refine EW.nm ?_))
  all_goals try (first | refine EW.eYes (x := Operand.tmp 38) ?_ | refine EW.eNo (x := Operand.tmp 38) ?_ | (refine EW.eCond (x := Operand.tmp 38) ?_ ?_ <;> (intro hb hb'; (try dsimp only at hb'); (try (exfalso; first | omega | with_reducible exact absurd rfl hb')))))
  all_goals try (refine EW.nm ?_)
  all_goals try ((first | refine EW.eRegL (id := 11) ?_ | refine EW.eReg (id := 11) ?_); refine EW.eBuild (place := fun i => some (i * 1, 1)) ?_; (first | refine EW.eStoreW (k := 4) ?_ | refine EW.eStore (k := 4) ?_); refine EW.eAssign ?_; refine EW.eEnd ?_; (try refine EW.nm ?_))
  all_goals try ((first | refine EW.eRegL (id := 12) ?_ | refine EW.eReg (id := 12) ?_); refine EW.eMove ?_; refine EW.eMove ?_; refine EW.eIndexAddr (z := 1) ?_; (first | refine EW.eStoreW (k := 1) ?_ | refine EW.eStore (k := 1) ?_); refine EW.eEnd ?_; (try refine EW.nm ?_))
  all_goals try ((first | refine EW.eRegL (id := 8) ?_ | refine EW.eReg (id := 8) ?_); refine EW.eMove ?_; refine EW.eAdd ?_; refine EW.eAssign ?_; refine EW.eEnd ?_; (try refine EW.nm ?_))
  all_goals first | (fail_if_success (with_reducible refine EW.isLater ?_)) | (refine EW.eLaterD (⟨i + 1, by omega, ok_next hk (by assumption)⟩) (by dsimp only; omega) (by ((repeat (first | exact EW.subW.nil | refine EW.subW.cons rfl ?_ | refine EW.subW.conv rfl ?_ (by first | exact EW.kvW (app_next (by assumption)) | exact EW.kvW (by simp)) | refine EW.subW.conv rfl ?_)); (first | done | fail))) hcl7)
  all_goals try (refine EW.nm ?_)
  all_goals try ((first | refine EW.eRegL (id := 13) ?_ | refine EW.eReg (id := 13) ?_); refine EW.eLoadA (k := 4) ?_; (first | refine EW.eStoreW (k := 4) ?_ | refine EW.eStore (k := 4) ?_); refine EW.eAssign ?_; refine EW.eEnd ?_; (try refine EW.nm ?_))
  all_goals (refine EW.eLeaveP ?_; intro w' hW; refine ⟨?_, hW⟩)
  · exact app_no fun h => by have := h.1; contradiction
  · exact app_no fun h => by have := h.2.1; contradiction
  · exact app_no fun h => by have := h.2.2 i (by omega); contradiction
  · obtain rfl : i = 4 := by omega
    exact app_yes ⟨by assumption, by assumption, hk⟩
/-! ### Products -/
def col (b : List Int) (c : Nat) : List Int := [b.getD c 0, b.getD (4 + c) 0, b.getD (8 + c) 0, b.getD (12 + c) 0]
def mulF (a b : List Int) (k : Nat) : Int := dq (row a (k / 4)) (col b (k % 4))
def mulOk (a b : List Int) : Prop := ∀ c, c < 4 → appOk a (col b c)
instance (a b : List Int) : Decidable (mulOk a b) := by unfold mulOk; infer_instance
def mulV (a b : List Int) : List Int := if mulOk a b then outP 16 (fun _ => true) (mulF a b) else [0, 0, 0, 0, 0, 0, 0, 0, 0, 0, 0, 0, 0, 0, 0, 0]
def mulE (a b : List Int) : Int := if mulOk a b then 0 else 30
theorem appV_len (m v : List Int) : (appV m v).length = 4 := by unfold appV; split <;> simp [outP_len]
instance (m v : List Int) : EW.LenI (appV m v) 4 := ⟨appV_len m v⟩
theorem appE_zero {m v : List Int} : appE m v = 0 ↔ appOk m v := by unfold appE; split <;> simp [*]
theorem appE_thirty {m v : List Int} (h : ¬ appE m v = 0) : appE m v = 30 := by unfold appE at *; split <;> simp_all
theorem appV_get {m v : List Int} (h : appOk m v) {r : Nat} (hr : r < 4) : (appV m v).getD r 0 = dq (row m r) v := by
  rw [appV, if_pos h, outP_get _ _ hr]; rfl
theorem col_ok {b : List Int} (c : Nat) (h : Ok64 b) : Ok64 (col b c) := fun i => by
  match i with
  | 0 => exact h _
  | 1 => exact h _
  | 2 => exact h _
  | 3 => exact h _
  | i + 4 => simp [col]
def mulD (c r k : Nat) : Bool := decide (k % 4 < c) || (decide (k % 4 = c) && decide (k / 4 < r))
theorem mul_next {a b : List Int} {c r : Nat} (h : appE a (col b c) = 0) (hc : c < 4) (hr : r < 4) : nums .i64 ((outP 16 (mulD c r) (mulF a b)).set (r * 4 + c) ((appV a (col b c)).getD r 0)) = nums .i64 (outP 16 (mulD c (r + 1)) (mulF a b)) := by
  have e : (appV a (col b c)).getD r 0 = mulF a b (r * 4 + c) := by
    rw [appV_get (appE_zero.1 h) hr, mulF, show (r * 4 + c) / 4 = r from by omega, show (r * 4 + c) % 4 = c from by omega]
  rw [e, outP_set]
  intro j hj
  unfold mulD; rw [Bool.eq_iff_iff]; simp; omega
theorem mul_col {a b : List Int} {c r : Nat} (hr : r = 4) : nums .i64 (outP 16 (mulD c r) (mulF a b)) = nums .i64 (outP 16 (mulD (c + 1) 0) (mulF a b)) := by
  subst hr
  rw [outP_congr (d' := mulD (c + 1) 0) (f' := mulF a b) fun k hk => ⟨?_, fun _ => rfl⟩]
  unfold mulD; rw [Bool.eq_iff_iff]; simp; omega
theorem mul_okn {a b : List Int} {c : Nat} (h : ∀ k, k < c → appOk a (col b k)) (h' : appE a (col b c) = 0) : ∀ k, k < c + 1 → appOk a (col b k) := fun k hk => by
  rcases Nat.lt_or_ge k c with h1 | h1
  · exact h k h1
  · obtain rfl : k = c := by omega
    exact appE_zero.1 h'
theorem mul_no {a b : List Int} {c : Nat} (hc : c < 4) (h : ¬ appE a (col b c) = 0) : Ending.returned (.tuple #[.agg #[.int .i64 0, .int .i64 0, .int .i64 0, .int .i64 0, .int .i64 0, .int .i64 0, .int .i64 0, .int .i64 0, .int .i64 0, .int .i64 0, .int .i64 0, .int .i64 0, .int .i64 0, .int .i64 0, .int .i64 0, .int .i64 0], .int .i64 (appE a (col b c))]) = Ending.returned (.tuple #[Nm (mulV a b), .int .i64 (mulE a b)]) := by
  have hn : ¬ mulOk a b := fun h1 => h (appE_zero.2 (h1 c hc))
  rw [mulV, mulE, if_neg hn, if_neg hn, appE_thirty h]; rfl
theorem mul_yes {a b : List Int} {c : Nat} (hc : c = 4) (h : ∀ k, k < c → appOk a (col b k)) : Ending.returned (.tuple #[Nm (outP 16 (mulD c 0) (mulF a b)), .int .i64 0]) = Ending.returned (.tuple #[Nm (mulV a b), .int .i64 (mulE a b)]) := by
  subst hc
  have e : outP 16 (mulD 4 0) (mulF a b) = outP 16 (fun _ => true) (mulF a b) := outP_congr fun k hk => ⟨by unfold mulD; rw [Bool.eq_iff_iff]; simp; omega, fun _ => rfl⟩
  have h : mulOk a b := h
  rw [mulV, mulE, if_pos h, if_pos h, e]
theorem rmul3 (a b : List Int) (w : World) (ha : Ok64 a) (kb : Ok64 b) (la : a.length = 16) (lb : b.length = 16) : Calls Try.prog 19 #[Nm a, Nm b] w fun e w' => e = .returned (.tuple #[Nm (mulV a b), .int .i64 (mulE a b)]) ∧ Below w.heap.size w w' := by
  refine EW.eEnter Try.func19 rfl Try.ntmps19 ?_
  all_goals try (refine EW.nm ?_)
  all_goals try ((first | refine EW.eRegL (id := 0) ?_ | refine EW.eReg (id := 0) ?_); refine EW.eBox ?_; refine EW.eBox ?_; refine EW.eAlloc ?_; refine EW.eAssign ?_; refine EW.eEnd ?_; (try refine EW.nm ?_))
  all_goals try ((first | refine EW.eRegL (id := 1) ?_ | refine EW.eReg (id := 1) ?_); refine EW.eBuild (place := fun i => some (i * 4, 4)) ?_; refine EW.eAlloc ?_; (first | refine EW.eStoreW (k := 16) ?_ | refine EW.eStore (k := 16) ?_); refine EW.eEnd ?_; (try refine EW.nm ?_))
  all_goals (refine EW.eToW 40 true (nums .i64 (outP 16 (mulD 0 0) (mulF a b))) ?_)
  all_goals try ((first | refine EW.eRegL (id := 2) ?_ | refine EW.eReg (id := 2) ?_); refine EW.eAssign ?_; refine EW.eEnd ?_; (try refine EW.nm ?_))
  all_goals first | (fail_if_success (refine EW.eUnroll 1 ?_)) | (refine EW.eLoopD [5, 7, 8, 9, 10, 12, 13, 14, 15, 16, 17, 18, 19, 20, 21, 22, 23, 24, 25, 26, 27, 28, 29, 30, 31, 32, 33, 34, 35, 36, 37, 38, 39, 40, 41, 42, 43, 44, 45, 46, 47, 48, 49, 50, 51, 52] 1000000 (fun j : {c : Nat // c ≤ 4 ∧ ∀ k, k < c → appOk a (col b k)} => [(.t 7, .v (.c (.v (.int .i64 (j.1 : Int))))), (.b 40, .b (.w true (nums .i64 (outP 16 (mulD j.1 0) (mulF a b)))))]) (fun j => 4 - j.1) (⟨0, by omega, by intro k h; omega⟩) (by ((repeat (first | exact EW.subW.nil | refine EW.subW.cons rfl ?_ | refine EW.subW.conv rfl ?_ (by first | exact EW.kvW (mul_col (by omega))) | refine EW.subW.conv rfl ?_)); (first | done | fail))) ?_; rintro hcl3 ⟨c, hc, hk⟩; (try dsimp only))
  all_goals try (refine EW.nm ?_)
  all_goals try ((first | refine EW.eRegL (id := 3) ?_ | refine EW.eReg (id := 3) ?_); refine EW.eMove ?_; refine EW.eLss ?_; refine EW.eEnd ?_; (try refine EW.nm ?_))
  all_goals try (first | refine EW.eYes (x := Operand.tmp 13) ?_ | refine EW.eNo (x := Operand.tmp 13) ?_ | (refine EW.eCond (x := Operand.tmp 13) ?_ ?_ <;> (intro hb hb'; (try dsimp only at hb'); (try (exfalso; first | omega | with_reducible exact absurd rfl hb')))))
  all_goals try (refine EW.nm ?_)
  all_goals try ((first | refine EW.eRegL (id := 5) ?_ | refine EW.eReg (id := 5) ?_); refine EW.eLoadA (k := 16) ?_; refine EW.eMove ?_; refine EW.eIndexAddr (z := 4) ?_; refine EW.eIndexAddr (z := 1) ?_; refine EW.eLoad1 ?_; refine EW.eMove ?_; refine EW.eIndexAddr (z := 4) ?_; refine EW.eIndexAddr (z := 1) ?_; refine EW.eLoad1 ?_; refine EW.eMove ?_; refine EW.eIndexAddr (z := 4) ?_; refine EW.eIndexAddr (z := 1) ?_; refine EW.eLoad1 ?_; refine EW.eMove ?_; refine EW.eIndexAddr (z := 4) ?_; refine EW.eIndexAddr (z := 1) ?_; refine EW.eLoad1 ?_; refine EW.eBuild (place := fun i => some (i * 1, 1)) ?_; refine EW.eCall Try.call20 (fun w => rapply a (col b c) w ha (col_ok c kb) la rfl) ?_; refine EW.eMove ?_; (first | refine EW.eExtC ?_ | refine EW.eExtA ?_); (first | refine EW.eExtC ?_ | refine EW.eExtA ?_); refine EW.eAlloc ?_; (first | refine EW.eStoreW (k := 4) ?_ | refine EW.eStore (k := 4) ?_); refine EW.eAssign ?_; refine EW.eDraw ?_; (try refine EW.nm ?_))
  all_goals try ((first | refine EW.eRegL (id := 6) ?_ | refine EW.eReg (id := 6) ?_); refine EW.eMove ?_; refine EW.eNeq ?_; refine EW.eEnd ?_; (try refine EW.nm ?_))
  all_goals try (first | refine EW.eYes (x := Operand.tmp 39) ?_ | refine EW.eNo (x := Operand.tmp 39) ?_ | (refine EW.eCond (x := Operand.tmp 39) ?_ ?_ <;> (intro hb hb'; (try dsimp only at hb'); (try (exfalso; first | omega | with_reducible exact absurd rfl hb')))))
  all_goals try (refine EW.nm ?_)
  all_goals try ((first | refine EW.eRegL (id := 7) ?_ | refine EW.eReg (id := 7) ?_); refine EW.eBuild (place := fun i => some (i * 4, 4)) ?_; refine EW.eMove ?_; (first | refine EW.eStoreW (k := 16) ?_ | refine EW.eStore (k := 16) ?_); refine EW.eAssign ?_; refine EW.eEnd ?_; (try refine EW.nm ?_))
  all_goals try ((first | refine EW.eRegL (id := 8) ?_ | refine EW.eReg (id := 8) ?_); refine EW.eAssign ?_; refine EW.eEnd ?_; (try refine EW.nm ?_))
  all_goals first | (fail_if_success (refine EW.eUnroll 1 ?_)) | (refine EW.eLoopD [10, 42, 43, 44, 45, 46, 47, 48, 49, 50, 51, 52] 1000000 (fun j : {r : Nat // r ≤ 4} => [(.t 10, .v (.c (.v (.int .i64 (j.1 : Int))))), (.b 40, .b (.w true (nums .i64 (outP 16 (mulD c j.1) (mulF a b)))))]) (fun j => 4 - j.1) (⟨0, by omega⟩) (by ((repeat (first | exact EW.subW.nil | refine EW.subW.cons rfl ?_ | refine EW.subW.conv rfl ?_ (by first | exact EW.kvW (mul_next (by assumption) (by omega) (by omega))) | refine EW.subW.conv rfl ?_)); (first | done | fail))) ?_; rintro hcl9 ⟨r, hr⟩; (try dsimp only))
  all_goals try (refine EW.nm ?_)
  all_goals try ((first | refine EW.eRegL (id := 9) ?_ | refine EW.eReg (id := 9) ?_); refine EW.eMove ?_; refine EW.eLss ?_; refine EW.eEnd ?_; (try refine EW.nm ?_))
  all_goals try (first | refine EW.eYes (x := Operand.tmp 43) ?_ | refine EW.eNo (x := Operand.tmp 43) ?_ | (refine EW.eCond (x := Operand.tmp 43) ?_ ?_ <;> (intro hb hb'; (try dsimp only at hb'); (try (exfalso; first | omega | with_reducible exact absurd rfl hb')))))
  all_goals try (refine EW.nm ?_)
  all_goals try ((first | refine EW.eRegL (id := 11) ?_ | refine EW.eReg (id := 11) ?_); refine EW.eMove ?_; refine EW.eMove ?_; refine EW.eMove ?_; refine EW.eIndexAddr (z := 1) ?_; refine EW.eLoad1 ?_; refine EW.eIndexAddr (z := 4) ?_; refine EW.eIndexAddr (z := 1) ?_; (first | refine EW.eStoreW (k := 1) ?_ | refine EW.eStore (k := 1) ?_); refine EW.eDraw ?_; (try refine EW.nm ?_))
  all_goals try ((first | refine EW.eRegL (id := 10) ?_ | refine EW.eReg (id := 10) ?_); refine EW.eMove ?_; refine EW.eAdd ?_; refine EW.eAssign ?_; refine EW.eEnd ?_; (try refine EW.nm ?_))
  all_goals first | (fail_if_success (with_reducible refine EW.isLater ?_)) | (refine EW.eLaterD (⟨r + 1, by omega⟩) (by dsimp only; omega) (by ((repeat (first | exact EW.subW.nil | refine EW.subW.cons rfl ?_ | refine EW.subW.conv rfl ?_ (by first | exact EW.kvW (mul_next (by assumption) (by omega) (by omega))) | refine EW.subW.conv rfl ?_)); (first | done | fail))) hcl9)
  all_goals try (refine EW.nm ?_)
  all_goals try ((first | refine EW.eRegL (id := 4) ?_ | refine EW.eReg (id := 4) ?_); refine EW.eMove ?_; refine EW.eAdd ?_; refine EW.eAssign ?_; refine EW.eEnd ?_; (try refine EW.nm ?_))
  all_goals first | (fail_if_success (with_reducible refine EW.isLater ?_)) | (refine EW.eLaterD (⟨c + 1, by omega, mul_okn hk (by assumption)⟩) (by dsimp only; omega) (by ((repeat (first | exact EW.subW.nil | refine EW.subW.cons rfl ?_ | refine EW.subW.conv rfl ?_ (by first | exact EW.kvW (mul_col (by omega))) | refine EW.subW.conv rfl ?_)); (first | done | fail))) hcl3)
  all_goals try (refine EW.nm ?_)
  all_goals try ((first | refine EW.eRegL (id := 12) ?_ | refine EW.eReg (id := 12) ?_); refine EW.eLoadA (k := 16) ?_; (first | refine EW.eStoreW (k := 16) ?_ | refine EW.eStore (k := 16) ?_); refine EW.eAssign ?_; refine EW.eEnd ?_; (try refine EW.nm ?_))
  all_goals (refine EW.eLeaveP ?_; intro w' hW; refine ⟨?_, hW⟩)
  · exact mul_no (by omega) (by assumption)
  · exact mul_yes (by omega) hk
end Go.Proofs.Ytgjbhocahpplbaa
