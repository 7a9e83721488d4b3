/- The document's matrices: sums of products, bounds. The document's matrices: products with vectors, products. -/
import Derived.Test.YthclhmdgfekaeaaHZG
namespace Go.Proofs.Ythclhmdgfekaeaa
set_option linter.unusedSimpArgs false
set_option linter.unusedVariables false
open Go.RowKit EV
open SX (Wr Tv Qu Rm Sh Is conjP eqs_iff eqs_false)
open EW (PlL PlT PlV PlVs LfV Mm Bt Opn GV nums)
set_option maxRecDepth 20000
abbrev Nm (l : List Int) : Value := .agg (nums .i64 l).toArray
def pd (r v : List Int) : Nat → Int
  | 0 => 0
  | k + 1 => pd r v k + r.getD k 0 * v.getD k 0
def dq (r v : List Int) : Int := pd r v 4 / 65536
def okQ (q : Int) : Prop := -4611686018427387904 ≤ q ∧ q ≤ 4611686018427387904
instance (q : Int) : Decidable (okQ q) := by unfold okQ; infer_instance
def valQ (q : Int) : Int := if okQ q then q else 0
abbrev sumOk (r v : List Int) : Prop := okQ (dq r v)
abbrev sumV (r v : List Int) : Int := valQ (dq r v)
theorem ok_abs {l : List Int} (h : Ok64 l) (i : Nat) : (l.getD i 0).natAbs < 65536 ^ 9 := by have := h i; omega
theorem prod_abs {l m : List Int} (h : Ok64 l) (h' : Ok64 m) (i : Nat) : (l.getD i 0 * m.getD i 0).natAbs ≤ 85070591730234615865843651857942052864 := by
  rw [Int.natAbs_mul]
  have h1 := h i
  have h2 := h' i
  have : (l.getD i 0).natAbs * (m.getD i 0).natAbs ≤ 9223372036854775808 * 9223372036854775808 := Nat.mul_le_mul (by omega) (by omega)
  omega
theorem pd_abs {r v : List Int} (h : Ok64 r) (h' : Ok64 v) : ∀ k, (pd r v k).natAbs ≤ k * 85070591730234615865843651857942052864
  | 0 => by simp [pd]
  | k + 1 => by
    have := pd_abs h h' k
    have h2 := prod_abs h h' k
    rw [pd, Nat.add_mul, Nat.one_mul]
    generalize r.getD k 0 * v.getD k 0 = p at *
    omega
theorem radd_pd {r v : List Int} (h : Ok64 r) (h' : Ok64 v) (k : Nat) (hk : k ≤ 3) (w : World) : Calls Try.prog 63 #[BZ (pd r v k), BZ (r.getD k 0 * v.getD k 0)] w fun e w' => e = .returned (BZ (pd r v (k + 1))) ∧ Below w.heap.size w w' := by
  have h1 := pd_abs h h' k
  have h2 := prod_abs h h' k
  have hW := W20_lit
  have : k * 85070591730234615865843651857942052864 ≤ 3 * 85070591730234615865843651857942052864 := Nat.mul_le_mul_right _ hk
  exact radd _ _ w (by omega)
theorem rof0 (r v : List Int) (w : World) : Calls Try.prog 46 #[.int .i64 0] w fun e w' => e = .returned (BZ (pd r v 0)) ∧ Below w.heap.size w w' := rof 0 w (by omega) (by omega)
theorem rdiv_dq {r v : List Int} (h : Ok64 r) (h' : Ok64 v) (w : World) : Calls Try.prog 47 #[BZ (pd r v 4), BZ 65536] w fun e w' => e = .returned (.tuple #[BZ (dq r v), BZ (pd r v 4 + -((pd r v 4).fdiv 65536 * 65536)), .int .i64 0]) ∧ Below w.heap.size w w' := by
  have h1 := pd_abs h h' 4
  have := rdiv (pd r v 4) 65536 w (by omega) (by omega) (by omega)
  rwa [show (pd r v 4).fdiv 65536 = dq r v from Int.fdiv_eq_ediv_of_nonneg _ (by omega)] at this ⊢
theorem dq_abs {r v : List Int} (h : Ok64 r) (h' : Ok64 v) : -5192296858534827628530496329220096 ≤ dq r v ∧ dq r v ≤ 5192296858534827628530496329220096 := by
  have h1 := pd_abs h h' 4
  unfold dq; omega
theorem rto_ok (z : Int) (w : World) (h : -5192296858534827628530496329220096 ≤ z ∧ z ≤ 5192296858534827628530496329220096) : Calls Try.prog 48 #[BZ z] w fun e w' => e = .returned (.tuple #[W2 z, .bool true]) ∧ Below w.heap.size w w' := by
  have := rto z w (by omega)
  rwa [if_pos (by omega)] at this
theorem sum_no {q : Int} (h : ¬ okQ q) : Ending.returned (.tuple #[.int .i64 0, .bool false]) = Ending.returned (.tuple #[.int .i64 (valQ q), .bool (decide (okQ q))]) := by rw [valQ, if_neg h, decide_eq_false h]
theorem sum_yes {q x : Int} (h : okQ q) (hx : x = q) : Ending.returned (.tuple #[.int .i64 x, .bool true]) = Ending.returned (.tuple #[.int .i64 (valQ q), .bool (decide (okQ q))]) := by rw [valQ, if_pos h, decide_eq_true h, hx]
theorem rsum (r v : List Int) (w : World) (hr : Ok64 r) (hv : Ok64 v) (lr : r.length = 4) (lv : v.length = 4) : Calls Try.prog 54 #[Nm r, Nm v] w fun e w' => e = .returned (.tuple #[.int .i64 (sumV r v), .bool (decide (sumOk r v))]) ∧ Below w.heap.size w w' := by
  obtain ⟨q, hq⟩ : ∃ q, dq r v = q := ⟨_, rfl⟩
  have hb := dq_abs hr hv
  have hD := rdiv_dq hr hv
  have hT := rto_ok (dq r v)
  rw [hq] at hb hD hT
  show Calls _ _ _ w fun e w' => e = .returned (.tuple #[.int .i64 (valQ (dq r v)), .bool (decide (okQ (dq r v)))]) ∧ _
  rw [hq]
  obtain ⟨hb1, hb2⟩ := hb
  refine EW.eEnter Try.func54 rfl Try.ntmps54 ?_
  all_goals try (refine EW.nm ?_)
  all_goals try ((first | refine EW.eRegL (id := 0) ?_ | refine EW.eReg (id := 0) ?_); refine EW.eBox ?_; refine EW.eBox ?_; refine EW.eAssign ?_; refine EW.eAssign ?_; refine EW.eEnd ?_; (try refine EW.nm ?_))
  all_goals try ((first | refine EW.eRegL (id := 1) ?_ | refine EW.eReg (id := 1) ?_); (first | refine EW.eCall Try.call46 (fun w => rof0 r v w) ?_ | refine EW.eCall Try.call46 (fun w => rof 65536 w (by omega) (by omega)) ?_ | refine EW.eCall Try.call46 (fun w => rof (r.getD {r3} 0) w (hr {r3}).1 (hr {r3}).2) ?_ | refine EW.eCall Try.call46 (fun w => rof (v.getD {r3} 0) w (hv {r3}).1 (hv {r3}).2) ?_); refine EW.eAlloc ?_; (first | refine EW.eStoreW (k := 21) ?_ | refine EW.eStore (k := 21) ?_); refine EW.eEnd ?_; (try refine EW.nm ?_))
  all_goals try ((first | refine EW.eRegL (id := 2) ?_ | refine EW.eReg (id := 2) ?_); refine EW.eAssign ?_; refine EW.eEnd ?_; (try refine EW.nm ?_))
  all_goals try (refine EW.eUnroll 5 ?_)
  all_goals try (refine EW.nm ?_)
  all_goals try ((first | refine EW.eRegL (id := 3) ?_ | refine EW.eReg (id := 3) ?_); refine EW.eMove ?_; refine EW.eLss ?_; refine EW.eEnd ?_; (try refine EW.nm ?_))
  all_goals try (first | refine EW.eYes (x := Operand.tmp 16) ?_ | refine EW.eNo (x := Operand.tmp 16) ?_ | (refine EW.eCond (x := Operand.tmp 16) ?_ ?_ <;> (intro hb hb'; (try dsimp only at hb'); (try (exfalso; first | omega | with_reducible exact absurd rfl hb')))))
  all_goals try (refine EW.nm ?_)
  all_goals try ((first | refine EW.eRegL (id := 5) ?_ | refine EW.eReg (id := 5) ?_); refine EW.eMove ?_; refine EW.eIndexAddr (z := 1) ?_; refine EW.eLoad1 ?_; (first | refine EW.eCall Try.call46 (fun w => rof0 r v w) ?_ | refine EW.eCall Try.call46 (fun w => rof 65536 w (by omega) (by omega)) ?_ | refine EW.eCall Try.call46 (fun w => rof (r.getD 0 0) w (hr 0).1 (hr 0).2) ?_ | refine EW.eCall Try.call46 (fun w => rof (v.getD 0 0) w (hv 0).1 (hv 0).2) ?_); refine EW.eMove ?_; refine EW.eIndexAddr (z := 1) ?_; refine EW.eLoad1 ?_; (first | refine EW.eCall Try.call46 (fun w => rof0 r v w) ?_ | refine EW.eCall Try.call46 (fun w => rof 65536 w (by omega) (by omega)) ?_ | refine EW.eCall Try.call46 (fun w => rof (r.getD 0 0) w (hr 0).1 (hr 0).2) ?_ | refine EW.eCall Try.call46 (fun w => rof (v.getD 0 0) w (hv 0).1 (hv 0).2) ?_); refine EW.eCall Try.call45 (fun w => rmulZ (r.getD 0 0) (v.getD 0 0) w (ok_abs hr _) (ok_abs hv _)) ?_; refine EW.eAlloc ?_; (first | refine EW.eStoreW (k := 21) ?_ | refine EW.eStore (k := 21) ?_); refine EW.eDraw ?_; (try refine EW.nm ?_))
  all_goals try ((first | refine EW.eRegL (id := 6) ?_ | refine EW.eReg (id := 6) ?_); refine EW.eLoadA (k := 21) ?_; refine EW.eLoadA (k := 21) ?_; refine EW.eCall Try.call63 (fun w => radd_pd hr hv 0 (by decide) w) ?_; (first | refine EW.eStoreW (k := 21) ?_ | refine EW.eStore (k := 21) ?_); refine EW.eEnd ?_; (try refine EW.nm ?_))
  all_goals try ((first | refine EW.eRegL (id := 4) ?_ | refine EW.eReg (id := 4) ?_); refine EW.eMove ?_; refine EW.eAdd ?_; refine EW.eAssign ?_; refine EW.eEnd ?_; (try refine EW.nm ?_))
  all_goals try ((first | refine EW.eRegL (id := 3) ?_ | refine EW.eReg (id := 3) ?_); refine EW.eMove ?_; refine EW.eLss ?_; refine EW.eEnd ?_; (try refine EW.nm ?_))
  all_goals try (first | refine EW.eYes (x := Operand.tmp 16) ?_ | refine EW.eNo (x := Operand.tmp 16) ?_ | (refine EW.eCond (x := Operand.tmp 16) ?_ ?_ <;> (intro hb hb'; (try dsimp only at hb'); (try (exfalso; first | omega | with_reducible exact absurd rfl hb')))))
  all_goals try (refine EW.nm ?_)
  all_goals try ((first | refine EW.eRegL (id := 5) ?_ | refine EW.eReg (id := 5) ?_); refine EW.eMove ?_; refine EW.eIndexAddr (z := 1) ?_; refine EW.eLoad1 ?_; (first | refine EW.eCall Try.call46 (fun w => rof0 r v w) ?_ | refine EW.eCall Try.call46 (fun w => rof 65536 w (by omega) (by omega)) ?_ | refine EW.eCall Try.call46 (fun w => rof (r.getD 1 0) w (hr 1).1 (hr 1).2) ?_ | refine EW.eCall Try.call46 (fun w => rof (v.getD 1 0) w (hv 1).1 (hv 1).2) ?_); refine EW.eMove ?_; refine EW.eIndexAddr (z := 1) ?_; refine EW.eLoad1 ?_; (first | refine EW.eCall Try.call46 (fun w => rof0 r v w) ?_ | refine EW.eCall Try.call46 (fun w => rof 65536 w (by omega) (by omega)) ?_ | refine EW.eCall Try.call46 (fun w => rof (r.getD 1 0) w (hr 1).1 (hr 1).2) ?_ | refine EW.eCall Try.call46 (fun w => rof (v.getD 1 0) w (hv 1).1 (hv 1).2) ?_); refine EW.eCall Try.call45 (fun w => rmulZ (r.getD 1 0) (v.getD 1 0) w (ok_abs hr _) (ok_abs hv _)) ?_; refine EW.eAlloc ?_; (first | refine EW.eStoreW (k := 21) ?_ | refine EW.eStore (k := 21) ?_); refine EW.eDraw ?_; (try refine EW.nm ?_))
  all_goals try ((first | refine EW.eRegL (id := 6) ?_ | refine EW.eReg (id := 6) ?_); refine EW.eLoadA (k := 21) ?_; refine EW.eLoadA (k := 21) ?_; refine EW.eCall Try.call63 (fun w => radd_pd hr hv 1 (by decide) w) ?_; (first | refine EW.eStoreW (k := 21) ?_ | refine EW.eStore (k := 21) ?_); refine EW.eEnd ?_; (try refine EW.nm ?_))
  all_goals try ((first | refine EW.eRegL (id := 4) ?_ | refine EW.eReg (id := 4) ?_); refine EW.eMove ?_; refine EW.eAdd ?_; refine EW.eAssign ?_; refine EW.eEnd ?_; (try refine EW.nm ?_))
  all_goals try ((first | refine EW.eRegL (id := 3) ?_ | refine EW.eReg (id := 3) ?_); refine EW.eMove ?_; refine EW.eLss ?_; refine EW.eEnd ?_; (try refine EW.nm ?_))
  all_goals try (first | refine EW.eYes (x := Operand.tmp 16) ?_ | refine EW.eNo (x := Operand.tmp 16) ?_ | (refine EW.eCond (x := Operand.tmp 16) ?_ ?_ <;> (intro hb hb'; (try dsimp only at hb'); (try (exfalso; first | omega | with_reducible exact absurd rfl hb')))))
  all_goals try (refine EW.nm ?_)
  all_goals try ((first | refine EW.eRegL (id := 5) ?_ | refine EW.eReg (id := 5) ?_); refine EW.eMove ?_; refine EW.eIndexAddr (z := 1) ?_; refine EW.eLoad1 ?_; (first | refine EW.eCall Try.call46 (fun w => rof0 r v w) ?_ | refine EW.eCall Try.call46 (fun w => rof 65536 w (by omega) (by omega)) ?_ | refine EW.eCall Try.call46 (fun w => rof (r.getD 2 0) w (hr 2).1 (hr 2).2) ?_ | refine EW.eCall Try.call46 (fun w => rof (v.getD 2 0) w (hv 2).1 (hv 2).2) ?_); refine EW.eMove ?_; refine EW.eIndexAddr (z := 1) ?_; refine EW.eLoad1 ?_; (first | refine EW.eCall Try.call46 (fun w => rof0 r v w) ?_ | refine EW.eCall Try.call46 (fun w => rof 65536 w (by omega) (by omega)) ?_ | refine EW.eCall Try.call46 (fun w => rof (r.getD 2 0) w (hr 2).1 (hr 2).2) ?_ | refine EW.eCall Try.call46 (fun w => rof (v.getD 2 0) w (hv 2).1 (hv 2).2) ?_); refine EW.eCall Try.call45 (fun w => rmulZ (r.getD 2 0) (v.getD 2 0) w (ok_abs hr _) (ok_abs hv _)) ?_; refine EW.eAlloc ?_; (first | refine EW.eStoreW (k := 21) ?_ | refine EW.eStore (k := 21) ?_); refine EW.eDraw ?_; (try refine EW.nm ?_))
  all_goals try ((first | refine EW.eRegL (id := 6) ?_ | refine EW.eReg (id := 6) ?_); refine EW.eLoadA (k := 21) ?_; refine EW.eLoadA (k := 21) ?_; refine EW.eCall Try.call63 (fun w => radd_pd hr hv 2 (by decide) w) ?_; (first | refine EW.eStoreW (k := 21) ?_ | refine EW.eStore (k := 21) ?_); refine EW.eEnd ?_; (try refine EW.nm ?_))
  all_goals try ((first | refine EW.eRegL (id := 4) ?_ | refine EW.eReg (id := 4) ?_); refine EW.eMove ?_; refine EW.eAdd ?_; refine EW.eAssign ?_; refine EW.eEnd ?_; (try refine EW.nm ?_))
  all_goals try ((first | refine EW.eRegL (id := 3) ?_ | refine EW.eReg (id := 3) ?_); refine EW.eMove ?_; refine EW.eLss ?_; refine EW.eEnd ?_; (try refine EW.nm ?_))
  all_goals try (first | refine EW.eYes (x := Operand.tmp 16) ?_ | refine EW.eNo (x := Operand.tmp 16) ?_ | (refine EW.eCond (x := Operand.tmp 16) ?_ ?_ <;> (intro hb hb'; (try dsimp only at hb'); (try (exfalso; first | omega | with_reducible exact absurd rfl hb')))))
  all_goals try (refine EW.nm ?_)
  all_goals try ((first | refine EW.eRegL (id := 5) ?_ | refine EW.eReg (id := 5) ?_); refine EW.eMove ?_; refine EW.eIndexAddr (z := 1) ?_; refine EW.eLoad1 ?_; (first | refine EW.eCall Try.call46 (fun w => rof0 r v w) ?_ | refine EW.eCall Try.call46 (fun w => rof 65536 w (by omega) (by omega)) ?_ | refine EW.eCall Try.call46 (fun w => rof (r.getD 3 0) w (hr 3).1 (hr 3).2) ?_ | refine EW.eCall Try.call46 (fun w => rof (v.getD 3 0) w (hv 3).1 (hv 3).2) ?_); refine EW.eMove ?_; refine EW.eIndexAddr (z := 1) ?_; refine EW.eLoad1 ?_; (first | refine EW.eCall Try.call46 (fun w => rof0 r v w) ?_ | refine EW.eCall Try.call46 (fun w => rof 65536 w (by omega) (by omega)) ?_ | refine EW.eCall Try.call46 (fun w => rof (r.getD 3 0) w (hr 3).1 (hr 3).2) ?_ | refine EW.eCall Try.call46 (fun w => rof (v.getD 3 0) w (hv 3).1 (hv 3).2) ?_); refine EW.eCall Try.call45 (fun w => rmulZ (r.getD 3 0) (v.getD 3 0) w (ok_abs hr _) (ok_abs hv _)) ?_; refine EW.eAlloc ?_; (first | refine EW.eStoreW (k := 21) ?_ | refine EW.eStore (k := 21) ?_); refine EW.eDraw ?_; (try refine EW.nm ?_))
  all_goals try ((first | refine EW.eRegL (id := 6) ?_ | refine EW.eReg (id := 6) ?_); refine EW.eLoadA (k := 21) ?_; refine EW.eLoadA (k := 21) ?_; refine EW.eCall Try.call63 (fun w => radd_pd hr hv 3 (by decide) w) ?_; (first | refine EW.eStoreW (k := 21) ?_ | refine EW.eStore (k := 21) ?_); refine EW.eEnd ?_; (try refine EW.nm ?_))
  all_goals try ((first | refine EW.eRegL (id := 4) ?_ | refine EW.eReg (id := 4) ?_); refine EW.eMove ?_; refine EW.eAdd ?_; refine EW.eAssign ?_; refine EW.eEnd ?_; (try refine EW.nm ?_))
  all_goals try ((first | refine EW.eRegL (id := 3) ?_ | refine EW.eReg (id := 3) ?_); refine EW.eMove ?_; refine EW.eLss ?_; refine EW.eEnd ?_; (try refine EW.nm ?_))
  all_goals try (first | refine EW.eYes (x := Operand.tmp 16) ?_ | refine EW.eNo (x := Operand.tmp 16) ?_ | (refine EW.eCond (x := Operand.tmp 16) ?_ ?_ <;> (intro hb hb'; (try dsimp only at hb'); (try (exfalso; first | omega | with_reducible exact absurd rfl hb')))))
  all_goals try (refine EW.nm ?_)
  all_goals try ((first | refine EW.eRegL (id := 5) ?_ | refine EW.eReg (id := 5) ?_); refine EW.eMove ?_; refine EW.eIndexAddr (z := 1) ?_; refine EW.eLoad1 ?_; (first | refine EW.eCall Try.call46 (fun w => rof0 r v w) ?_ | refine EW.eCall Try.call46 (fun w => rof 65536 w (by omega) (by omega)) ?_ | refine EW.eCall Try.call46 (fun w => rof (r.getD 4 0) w (hr 4).1 (hr 4).2) ?_ | refine EW.eCall Try.call46 (fun w => rof (v.getD 4 0) w (hv 4).1 (hv 4).2) ?_); refine EW.eMove ?_; refine EW.eIndexAddr (z := 1) ?_; refine EW.eLoad1 ?_; (first | refine EW.eCall Try.call46 (fun w => rof0 r v w) ?_ | refine EW.eCall Try.call46 (fun w => rof 65536 w (by omega) (by omega)) ?_ | refine EW.eCall Try.call46 (fun w => rof (r.getD 4 0) w (hr 4).1 (hr 4).2) ?_ | refine EW.eCall Try.call46 (fun w => rof (v.getD 4 0) w (hv 4).1 (hv 4).2) ?_); refine EW.eCall Try.call45 (fun w => rmulZ (r.getD 4 0) (v.getD 4 0) w (ok_abs hr _) (ok_abs hv _)) ?_; refine EW.eAlloc ?_; (first | refine EW.eStoreW (k := 21) ?_ | refine EW.eStore (k := 21) ?_); refine EW.eDraw ?_; (try refine EW.nm ?_))
  all_goals try ((first | refine EW.eRegL (id := 6) ?_ | refine EW.eReg (id := 6) ?_); refine EW.eLoadA (k := 21) ?_; refine EW.eLoadA (k := 21) ?_; refine EW.eCall Try.call63 (fun w => radd_pd hr hv 4 (by decide) w) ?_; (first | refine EW.eStoreW (k := 21) ?_ | refine EW.eStore (k := 21) ?_); refine EW.eEnd ?_; (try refine EW.nm ?_))
  all_goals try ((first | refine EW.eRegL (id := 4) ?_ | refine EW.eReg (id := 4) ?_); refine EW.eMove ?_; refine EW.eAdd ?_; refine EW.eAssign ?_; refine EW.eEnd ?_; (try refine EW.nm ?_))
  all_goals try ((first | refine EW.eRegL (id := 7) ?_ | refine EW.eReg (id := 7) ?_); refine EW.eLoadA (k := 21) ?_; (first | refine EW.eCall Try.call46 (fun w => rof0 r v w) ?_ | refine EW.eCall Try.call46 (fun w => rof 65536 w (by omega) (by omega)) ?_ | refine EW.eCall Try.call46 (fun w => rof (r.getD {r3} 0) w (hr {r3}).1 (hr {r3}).2) ?_ | refine EW.eCall Try.call46 (fun w => rof (v.getD {r3} 0) w (hv {r3}).1 (hv {r3}).2) ?_); refine EW.eCall Try.call47 (fun w => hD w) ?_; refine EW.eMove ?_; (first | refine EW.eExtC ?_ | refine EW.eExtA ?_); (first | refine EW.eExtC ?_ | refine EW.eExtA ?_); (first | refine EW.eExtC ?_ | refine EW.eExtA ?_); refine EW.eAlloc ?_; refine EW.eAlloc ?_; (first | refine EW.eStoreW (k := 21) ?_ | refine EW.eStore (k := 21) ?_); (first | refine EW.eStoreW (k := 21) ?_ | refine EW.eStore (k := 21) ?_); refine EW.eAssign ?_; refine EW.eDraw ?_; (try refine EW.nm ?_))
  all_goals try ((first | refine EW.eRegL (id := 8) ?_ | refine EW.eReg (id := 8) ?_); refine EW.eLoadA (k := 21) ?_; refine EW.eCall Try.call48 (fun w => hT w ⟨hb1, hb2⟩) ?_; refine EW.eMove ?_; (first | refine EW.eExtC ?_ | refine EW.eExtA ?_); (first | refine EW.eExtC ?_ | refine EW.eExtA ?_); refine EW.eAlloc ?_; (first | refine EW.eStoreW (k := 2) ?_ | refine EW.eStore (k := 2) ?_); refine EW.eAssign ?_; refine EW.eEnd ?_; (try refine EW.nm ?_))
  all_goals try ((first | refine EW.eRegL (id := 9) ?_ | refine EW.eReg (id := 9) ?_); refine EW.eMove ?_; refine EW.eNeq ?_; refine EW.eMove ?_)
  all_goals try (refine EW.eGuard (j := 2) (o := ⟨some 46, _, _, _, _, _⟩) ?_ ?_ <;> (intro hb hb'; (try dsimp only at hb'); (try (exfalso; first | omega | with_reducible exact absurd rfl hb'))))
  all_goals try ((first | refine EW.eSkipF (j := 2) ?_ | refine EW.eSkipU (j := 2) ?_ | refine EW.eMove ?_); (first | refine EW.eSkipF (j := 2) ?_ | refine EW.eSkipU (j := 2) ?_ | refine EW.eNot ?_); (first | refine EW.ePickT ?_ | refine EW.ePickF ?_); refine EW.eMove ?_)
  all_goals try (refine EW.eGuard (j := 6) (o := ⟨some 50, _, _, _, _, _⟩) ?_ ?_ <;> (intro hb hb'; (try dsimp only at hb'); (try (exfalso; first | omega | with_reducible exact absurd rfl hb'))))
  all_goals try ((first | refine EW.eSkipF (j := 6) ?_ | refine EW.eSkipU (j := 6) ?_ | refine EW.eFieldAddr (k := 1) ?_); (first | refine EW.eSkipF (j := 6) ?_ | refine EW.eSkipU (j := 6) ?_ | refine EW.eLoad1 ?_); (first | refine EW.eSkipF (j := 6) ?_ | refine EW.eSkipU (j := 6) ?_ | refine EW.eNeq ?_); (first | refine EW.eSkipF (j := 6) ?_ | refine EW.eSkipU (j := 6) ?_ | refine EW.eMove ?_))
  all_goals try (refine EW.eGuard (j := 10) (o := ⟨some 54, _, _, _, _, _⟩) ?_ ?_ <;> (intro hb hb'; (try dsimp only at hb'); (try (exfalso; first | omega | with_reducible exact absurd rfl hb'))))
  all_goals try ((first | refine EW.eSkipT (j := 10) ?_ | refine EW.eSkipU (j := 10) ?_ | refine EW.eFieldAddr (k := 1) ?_); (first | refine EW.eSkipT (j := 10) ?_ | refine EW.eSkipU (j := 10) ?_ | refine EW.eLoad1 ?_); (first | refine EW.eSkipT (j := 10) ?_ | refine EW.eSkipU (j := 10) ?_ | refine EW.eNeq ?_); (first | refine EW.eSkipF (j := 6) ?_ | refine EW.eSkipU (j := 6) ?_ | refine EW.ePickT ?_ | refine EW.ePickF ?_); (first | refine EW.ePickT ?_ | refine EW.ePickF ?_); refine EW.eEnd ?_; (try refine EW.nm ?_))
  all_goals try (first | refine EW.eYes (x := Operand.tmp 58) ?_ | refine EW.eNo (x := Operand.tmp 58) ?_ | (refine EW.eCond (x := Operand.tmp 58) ?_ ?_ <;> (intro hb hb'; (try dsimp only at hb'); (try (exfalso; first | omega | with_reducible exact absurd rfl hb')))))
  all_goals try (refine EW.nm ?_)
  all_goals try ((first | refine EW.eRegL (id := 10) ?_ | refine EW.eReg (id := 10) ?_); refine EW.eAssign ?_; refine EW.eAssign ?_; refine EW.eEnd ?_; (try refine EW.nm ?_))
  all_goals try (with_reducible refine EW.parkK ?_)
  all_goals try ((first | refine EW.eRegL (id := 11) ?_ | refine EW.eReg (id := 11) ?_); refine EW.eFieldAddr (k := 1) ?_; refine EW.eLoad1 ?_; refine EW.eEql ?_; refine EW.eMove ?_)
  all_goals try (refine EW.eGuard (j := 3) (o := ⟨some 63, _, _, _, _, _⟩) ?_ ?_ <;> (intro hb hb'; (try dsimp only at hb'); (try (exfalso; first | omega | with_reducible exact absurd rfl hb'))))
  all_goals try ((first | refine EW.eSkipT (j := 3) ?_ | refine EW.eSkipU (j := 3) ?_ | refine EW.eFieldAddr (k := 1) ?_); (first | refine EW.eSkipT (j := 3) ?_ | refine EW.eSkipU (j := 3) ?_ | refine EW.eLoad1 ?_); (first | refine EW.eSkipT (j := 3) ?_ | refine EW.eSkipU (j := 3) ?_ | refine EW.eGtr ?_); (first | refine EW.ePickT ?_ | refine EW.ePickF ?_); refine EW.eMove ?_)
  all_goals try (refine EW.eGuard (j := 8) (o := ⟨some 68, _, _, _, _, _⟩) ?_ ?_ <;> (intro hb hb'; (try dsimp only at hb'); (try (exfalso; first | omega | with_reducible exact absurd rfl hb'))))
  all_goals try ((first | refine EW.eSkipF (j := 8) ?_ | refine EW.eSkipU (j := 8) ?_ | refine EW.eFieldAddr (k := 1) ?_); (first | refine EW.eSkipF (j := 8) ?_ | refine EW.eSkipU (j := 8) ?_ | refine EW.eLoad1 ?_); (first | refine EW.eSkipF (j := 8) ?_ | refine EW.eSkipU (j := 8) ?_ | refine EW.eEql ?_); (first | refine EW.eSkipF (j := 8) ?_ | refine EW.eSkipU (j := 8) ?_ | refine EW.eMove ?_))
  all_goals try (refine EW.eGuard (j := 12) (o := ⟨some 72, _, _, _, _, _⟩) ?_ ?_ <;> (intro hb hb'; (try dsimp only at hb'); (try (exfalso; first | omega | with_reducible exact absurd rfl hb'))))
  all_goals try ((first | refine EW.eSkipT (j := 12) ?_ | refine EW.eSkipU (j := 12) ?_ | refine EW.eFieldAddr (k := 1) ?_); (first | refine EW.eSkipT (j := 12) ?_ | refine EW.eSkipU (j := 12) ?_ | refine EW.eLoad1 ?_); (first | refine EW.eSkipT (j := 12) ?_ | refine EW.eSkipU (j := 12) ?_ | refine EW.eLss ?_); (first | refine EW.eSkipF (j := 8) ?_ | refine EW.eSkipU (j := 8) ?_ | refine EW.ePickT ?_ | refine EW.ePickF ?_); (first | refine EW.ePickT ?_ | refine EW.ePickF ?_); refine EW.eEnd ?_; (try refine EW.nm ?_))
  all_goals try (first | refine EW.eYes (x := Operand.tmp 76) ?_ | refine EW.eNo (x := Operand.tmp 76) ?_ | (refine EW.eCond (x := Operand.tmp 76) ?_ ?_ <;> (intro hb hb'; (try dsimp only at hb'); (try (exfalso; first | omega | with_reducible exact absurd rfl hb')))))
  all_goals try (refine EW.nm ?_)
  all_goals try ((first | refine EW.eRegL (id := 12) ?_ | refine EW.eReg (id := 12) ?_); refine EW.eAssign ?_; refine EW.eAssign ?_; refine EW.eEnd ?_; (try refine EW.nm ?_))
  all_goals try (with_reducible refine EW.parkK ?_)
  all_goals try ((first | refine EW.eRegL (id := 13) ?_ | refine EW.eReg (id := 13) ?_); refine EW.eFieldAddr (k := 1) ?_; refine EW.eLoad1 ?_; refine EW.eConv ?_; refine EW.eAssign ?_; refine EW.eAssign ?_; refine EW.eEnd ?_; (try refine EW.nm ?_))
  all_goals try (with_reducible refine EW.parkK ?_)
  all_goals try (refine EW.Park.mk ?_)
  all_goals (refine EW.eLeaveP ?_; intro w' hW; refine ⟨?_, hW⟩)
  all_goals first | exact sum_no (by unfold okQ; omega) | exact sum_yes (by unfold okQ; omega) (by first | omega | (rw [IntKind.wrap_i64]; omega))
def good (b : Int) (m : List Int) (k : Nat) : Prop := ∀ t, t < k → 0 ≤ b ∧ -b ≤ m.getD t 0 ∧ m.getD t 0 ≤ b
theorem good_next {b : Int} {m : List Int} {k : Nat} (h : good b m k) (h' : 0 ≤ b ∧ -b ≤ m.getD k 0 ∧ m.getD k 0 ≤ b) : good b m (k + 1) := fun t ht => by
  rcases Nat.lt_or_ge t k with h1 | h1
  · exact h t h1
  · obtain rfl : t = k := by omega
    exact h'
theorem good_zero (b : Int) (m : List Int) : good b m 0 := fun t h => by omega
def within (b : Int) (m : List Int) : Prop := 0 ≤ b ∧ ∀ n ∈ m, -b ≤ n ∧ n ≤ b
instance (b : Int) (m : List Int) : Decidable (within b m) := by unfold within; infer_instance
theorem within_good {b : Int} {m : List Int} (hm : 0 < m.length) : within b m ↔ good b m m.length := by
  constructor
  · rintro ⟨h1, h2⟩ t ht
    refine ⟨h1, h2 _ ?_⟩
    rw [List.getD_eq_getElem?_getD, List.getElem?_eq_getElem ht]; exact List.getElem_mem ht
  · intro h
    refine ⟨(h 0 hm).1, fun n hn => ?_⟩
    obtain ⟨i, hi, rfl⟩ := List.getElem_of_mem hn
    have := (h i hi).2
    rwa [List.getD_eq_getElem?_getD, List.getElem?_eq_getElem hi] at this
theorem rwithin (m : List Int) (b : Int) (w : World) (lm : m.length = 16) (hb1 : -9223372036854775808 ≤ b) (hb2 : b ≤ 9223372036854775807) : Calls Try.prog 53 #[Nm m, .int .i64 b] w fun e w' => e = .returned (.bool (decide (within b m))) ∧ Below w.heap.size w w' := by
  have hwg := within_good (b := b) (m := m) (by omega)
  rw [lm] at hwg
  refine EW.eEnter Try.func53 rfl Try.ntmps53 ?_
  all_goals try (refine EW.nm ?_)
  all_goals try ((first | refine EW.eRegL (id := 0) ?_ | refine EW.eReg (id := 0) ?_); refine EW.eBox ?_; refine EW.eAssign ?_; refine EW.eEnd ?_; (try refine EW.nm ?_))
  all_goals try ((first | refine EW.eRegL (id := 1) ?_ | refine EW.eReg (id := 1) ?_); refine EW.eAssign ?_; refine EW.eEnd ?_; (try refine EW.nm ?_))
  all_goals first | (fail_if_success (refine EW.eUnroll 1 ?_)) | (refine EW.eLoopD [4, 5, 6, 7, 8, 9, 10, 11, 12, 13, 14, 15, 16, 17, 18, 19, 20, 21, 22, 23, 24, 25, 26, 27, 28, 29, 30, 31, 32, 33, 34, 35] 1000000 (fun j : {i : Nat // i ≤ 4 ∧ good b m (i * 4)} => [(.t 5, .v (.c (.v (.int .i64 (j.1 : Int)))))]) (fun j => 4 - j.1) (⟨0, by omega, good_zero b m⟩) (by ((repeat (first | exact EW.subW.nil | refine EW.subW.cons rfl ?_ | refine EW.subW.conv rfl ?_)); (first | done | fail))) ?_; rintro hcl2 ⟨i, hi, hg⟩; (try dsimp only))
  all_goals try (refine EW.nm ?_)
  all_goals try ((first | refine EW.eRegL (id := 2) ?_ | refine EW.eReg (id := 2) ?_); refine EW.eMove ?_; refine EW.eLss ?_; refine EW.eEnd ?_; (try refine EW.nm ?_))
  all_goals try (first | refine EW.eYes (x := Operand.tmp 8) ?_ | refine EW.eNo (x := Operand.tmp 8) ?_ | (refine EW.eCond (x := Operand.tmp 8) ?_ ?_ <;> (intro hb hb'; (try dsimp only at hb'); (try (exfalso; first | omega | with_reducible exact absurd rfl hb')))))
  all_goals try (refine EW.nm ?_)
  all_goals try ((first | refine EW.eRegL (id := 4) ?_ | refine EW.eReg (id := 4) ?_); refine EW.eAssign ?_; refine EW.eEnd ?_; (try refine EW.nm ?_))
  all_goals first | (fail_if_success (refine EW.eUnroll 1 ?_)) | (refine EW.eLoopD [4, 6, 11, 12, 13, 14, 15, 16, 17, 18, 19, 20, 21, 22, 23, 24, 25, 26, 27, 28, 29, 30, 31, 32, 33, 34, 35] 1000000 (fun j : {j : Nat // j ≤ 4 ∧ good b m (i * 4 + j)} => [(.t 6, .v (.c (.v (.int .i64 (j.1 : Int)))))]) (fun j => 4 - j.1) (⟨0, by omega, hg⟩) (by ((repeat (first | exact EW.subW.nil | refine EW.subW.cons rfl ?_ | refine EW.subW.conv rfl ?_)); (first | done | fail))) ?_; rintro hcl5 ⟨j, hj, hh⟩; (try dsimp only))
  all_goals try (refine EW.nm ?_)
  all_goals try ((first | refine EW.eRegL (id := 5) ?_ | refine EW.eReg (id := 5) ?_); refine EW.eMove ?_; refine EW.eLss ?_; refine EW.eEnd ?_; (try refine EW.nm ?_))
  all_goals try (first | refine EW.eYes (x := Operand.tmp 12) ?_ | refine EW.eNo (x := Operand.tmp 12) ?_ | (refine EW.eCond (x := Operand.tmp 12) ?_ ?_ <;> (intro hb hb'; (try dsimp only at hb'); (try (exfalso; first | omega | with_reducible exact absurd rfl hb')))))
  all_goals try (refine EW.nm ?_)
  all_goals try ((first | refine EW.eRegL (id := 7) ?_ | refine EW.eReg (id := 7) ?_); refine EW.eMove ?_; refine EW.eLss ?_; refine EW.eMove ?_)
  all_goals try (refine EW.eGuard (j := 2) (o := ⟨some 18, _, _, _, _, _⟩) ?_ ?_ <;> (intro hb hb'; (try dsimp only at hb'); (try (exfalso; first | omega | with_reducible exact absurd rfl hb'))))
  all_goals try ((first | refine EW.eSkipF (j := 2) ?_ | refine EW.eSkipU (j := 2) ?_ | refine EW.eMove ?_); (first | refine EW.eSkipF (j := 2) ?_ | refine EW.eSkipU (j := 2) ?_ | refine EW.eMove ?_); (first | refine EW.eSkipF (j := 2) ?_ | refine EW.eSkipU (j := 2) ?_ | refine EW.eIndexAddr (z := 4) ?_); (first | refine EW.eSkipF (j := 2) ?_ | refine EW.eSkipU (j := 2) ?_ | refine EW.eIndexAddr (z := 1) ?_); (first | refine EW.eSkipF (j := 2) ?_ | refine EW.eSkipU (j := 2) ?_ | refine EW.eLoad1 ?_); (first | refine EW.eSkipF (j := 2) ?_ | refine EW.eSkipU (j := 2) ?_ | refine EW.eMove ?_); (first | refine EW.eSkipF (j := 2) ?_ | refine EW.eSkipU (j := 2) ?_ | refine EW.eGtr ?_); (first | refine EW.ePickT ?_ | refine EW.ePickF ?_); refine EW.eMove ?_)
  all_goals try (refine EW.eGuard (j := 11) (o := ⟨some 27, _, _, _, _, _⟩) ?_ ?_ <;> (intro hb hb'; (try dsimp only at hb'); (try (exfalso; first | omega | with_reducible exact absurd rfl hb'))))
  all_goals try ((first | refine EW.eSkipF (j := 11) ?_ | refine EW.eSkipU (j := 11) ?_ | refine EW.eMove ?_); (first | refine EW.eSkipF (j := 11) ?_ | refine EW.eSkipU (j := 11) ?_ | refine EW.eMove ?_); (first | refine EW.eSkipF (j := 11) ?_ | refine EW.eSkipU (j := 11) ?_ | refine EW.eIndexAddr (z := 4) ?_); (first | refine EW.eSkipF (j := 11) ?_ | refine EW.eSkipU (j := 11) ?_ | refine EW.eIndexAddr (z := 1) ?_); (first | refine EW.eSkipF (j := 11) ?_ | refine EW.eSkipU (j := 11) ?_ | refine EW.eLoad1 ?_); (first | refine EW.eSkipF (j := 11) ?_ | refine EW.eSkipU (j := 11) ?_ | refine EW.eMove ?_); (first | refine EW.eSkipF (j := 11) ?_ | refine EW.eSkipU (j := 11) ?_ | refine EW.eNeg ?_); (first | refine EW.eSkipF (j := 11) ?_ | refine EW.eSkipU (j := 11) ?_ | refine EW.eLss ?_); (first | refine EW.ePickT ?_ | refine EW.ePickF ?_); refine EW.eEnd ?_; (try refine EW.nm ?_))
  all_goals try (first | refine EW.eYes (x := Operand.tmp 35) ?_ | refine EW.eNo (x := Operand.tmp 35) ?_ | (refine EW.eCond (x := Operand.tmp 35) ?_ ?_ <;> (intro hb hb'; (try dsimp only at hb'); (try (exfalso; first | omega | with_reducible exact absurd rfl hb')))))
  all_goals try (refine EW.nm ?_)
  all_goals try ((first | refine EW.eRegL (id := 8) ?_ | refine EW.eReg (id := 8) ?_); refine EW.eAssign ?_; refine EW.eEnd ?_; (try refine EW.nm ?_))
  all_goals try (with_reducible refine EW.parkK ?_)
  all_goals try ((first | refine EW.eRegL (id := 6) ?_ | refine EW.eReg (id := 6) ?_); refine EW.eMove ?_; refine EW.eAdd ?_; refine EW.eAssign ?_; refine EW.eEnd ?_; (try refine EW.nm ?_))
  all_goals first | (fail_if_success (with_reducible refine EW.isLater ?_)) | (refine EW.eLaterD (⟨j + 1, by omega, good_next (k := i * 4 + j) hh ⟨by omega, by omega, by omega⟩⟩) (by dsimp only; omega) (by ((repeat (first | exact EW.subW.nil | refine EW.subW.cons rfl ?_ | refine EW.subW.conv rfl ?_)); (first | done | fail))) hcl5)
  all_goals try (refine EW.nm ?_)
  all_goals try ((first | refine EW.eRegL (id := 3) ?_ | refine EW.eReg (id := 3) ?_); refine EW.eMove ?_; refine EW.eAdd ?_; refine EW.eAssign ?_; refine EW.eEnd ?_; (try refine EW.nm ?_))
  all_goals first | (fail_if_success (with_reducible refine EW.isLater ?_)) | (refine EW.eLaterD (⟨i + 1, by omega, (show good b m ((i + 1) * 4) from (show (i + 1) * 4 = i * 4 + j from by omega) ▸ hh)⟩) (by dsimp only; omega) (by ((repeat (first | exact EW.subW.nil | refine EW.subW.cons rfl ?_ | refine EW.subW.conv rfl ?_)); (first | done | fail))) hcl2)
  all_goals try (refine EW.nm ?_)
  all_goals try ((first | refine EW.eRegL (id := 9) ?_ | refine EW.eReg (id := 9) ?_); refine EW.eAssign ?_; refine EW.eEnd ?_; (try refine EW.nm ?_))
  all_goals try (with_reducible refine EW.parkK ?_)
  all_goals try (refine EW.Park.mk ?_)
  all_goals (refine EW.eLeaveP ?_; intro w' hW; refine ⟨?_, hW⟩)
  all_goals first
    | (rw [decide_eq_false (fun h => by have := (hwg.1 h) (i * 4 + j) (by omega); omega)])
    | (obtain rfl : i = 4 := by omega
       rw [decide_eq_true (hwg.2 hg)])
end Go.Proofs.Ythclhmdgfekaeaa
namespace Go.Proofs.Ythclhmdgfekaeaa
set_option linter.unusedSimpArgs false
set_option linter.unusedVariables false
open Go.RowKit EV
open SX (Wr Tv Qu Rm Sh Is conjP eqs_iff eqs_false)
open EW (PlL PlT PlV PlVs LfV Mm Bt Opn GV nums)
set_option maxRecDepth 20000
def outP (n : Nat) (d : Nat → Bool) (f : Nat → Int) : List Int := (List.range n).map fun k => if d k then f k else 0
theorem outP_len (n : Nat) (d : Nat → Bool) (f : Nat → Int) : (outP n d f).length = n := by simp [outP]
instance (n : Nat) (d : Nat → Bool) (f : Nat → Int) : EW.LenI (outP n d f) n := ⟨outP_len n d f⟩
theorem outP_congr {n : Nat} {d d' : Nat → Bool} {f f' : Nat → Int} (h : ∀ k, k < n → d k = d' k ∧ (d k = true → f k = f' k)) : outP n d f = outP n d' f' := by
  unfold outP; apply List.map_congr_left; intro k hk
  obtain ⟨h1, h2⟩ := h k (List.mem_range.1 hk)
  rw [← h1]; split
  · exact h2 (by assumption)
  · rfl
theorem outP_set {n k : Nat} {d d' : Nat → Bool} {f : Nat → Int} (h : ∀ j, j < n → d' j = (d j || j == k)) : (outP n d f).set k (f k) = outP n d' f := by
  apply List.ext_getElem?
  intro j
  rw [List.getElem?_set, outP_len]
  by_cases hj : j < n
  · have h1 := h j hj
    by_cases hk : k = j
    · subst hk; rw [if_pos rfl, if_pos hj]; simp [outP, List.getElem?_range hj, h1]
    · rw [if_neg hk]; simp [outP, List.getElem?_range hj, h1, Ne.symm hk]
  · rw [List.getElem?_eq_none (l := outP n d' f) (by rw [outP_len]; omega)]
    by_cases hk : k = j
    · subst hk; rw [if_pos rfl, if_neg hj]
    · rw [if_neg hk, List.getElem?_eq_none (by rw [outP_len]; omega)]
abbrev row (m : List Int) (i : Nat) : List Int := (m.drop (i * 4)).take 4
/-- A matrix whose first row is v. -/
def vec16 (v : List Int) : List Int := v ++ [0, 0, 0, 0, 0, 0, 0, 0, 0, 0, 0, 0]
theorem len4 {v : List Int} (h : v.length = 4) : ∃ a b c d, v = [a, b, c, d] := by
  match v, h with
  | [a, b, c, d], _ => exact ⟨a, b, c, d, rfl⟩
theorem bvec (a b c d : Int) : Is (putL 0 ((nums .i64 [a, b, c, d]).map C.v) (List.map C.v [.int .i64 0, .int .i64 0, .int .i64 0, .int .i64 0, .int .i64 0, .int .i64 0, .int .i64 0, .int .i64 0, .int .i64 0, .int .i64 0, .int .i64 0, .int .i64 0, .int .i64 0, .int .i64 0, .int .i64 0, .int .i64 0])) ((nums .i64 (vec16 [a, b, c, d])).map C.v) := ⟨rfl⟩
def appOk (m v : List Int) : Prop := within 4611686018427387904 m ∧ within 4611686018427387904 (vec16 v) ∧ ∀ i, i < 4 → sumOk (row m i) v
instance (m v : List Int) : Decidable (appOk m v) := by unfold appOk; infer_instance
def appV (m v : List Int) : List Int := if appOk m v then outP 4 (fun _ => true) (fun k => dq (row m k) v) else [0, 0, 0, 0]
def appE (m v : List Int) : Int := if appOk m v then 0 else 30
theorem row_get {m : List Int} {i k : Nat} (hk : k < 4) : (row m i).getD k 0 = m.getD (i * 4 + k) 0 := by
  simp only [row, List.getD_eq_getElem?_getD, List.getElem?_take, List.getElem?_drop, if_pos hk]
theorem row_len {m : List Int} {i : Nat} (hi : i < 4) (h : m.length = 16) : (row m i).length = 4 := by simp [row]; omega
theorem row_ok {m : List Int} (i : Nat) (h : Ok64 m) : Ok64 (row m i) := fun k => by
  rcases Nat.lt_or_ge k 4 with hk | hk
  · rw [row_get hk]; exact h _
  · have : (row m i).getD k 0 = 0 := by
      simp only [row, List.getD_eq_getElem?_getD, List.getElem?_take, if_neg (show ¬ k < 4 by omega)]; rfl
    rw [this]; omega
theorem ok_next {m v : List Int} {i : Nat} (h : ∀ k, k < i → sumOk (row m k) v) (h' : okQ (dq (row m i) v)) : ∀ k, k < i + 1 → sumOk (row m k) v := fun k hk => by
  rcases Nat.lt_or_ge k i with h1 | h1
  · exact h k h1
  · obtain rfl : k = i := by omega
    exact h'
theorem app_next {m v : List Int} {i : Nat} (h : okQ (dq (row m i) v)) : nums .i64 ((outP 4 (fun k => decide (k < i)) (fun k => dq (row m k) v)).set i (valQ (dq (row m i) v))) = nums .i64 (outP 4 (fun k => decide (k < i + 1)) (fun k => dq (row m k) v)) := by
  rw [valQ, if_pos h, outP_set (f := fun k => dq (row m k) v) (d' := fun k => decide (k < i + 1))]
  intro j _
  rw [Bool.eq_iff_iff]; simp; omega
theorem app_no {m v : List Int} (h : ¬ appOk m v) : Ending.returned (.tuple #[.agg #[.int .i64 0, .int .i64 0, .int .i64 0, .int .i64 0], .int .i64 30]) = Ending.returned (.tuple #[Nm (appV m v), .int .i64 (appE m v)]) := by
  rw [appV, appE, if_neg h, if_neg h]; rfl
theorem app_yes {m v : List Int} (h : appOk m v) : Ending.returned (.tuple #[Nm (outP 4 (fun k => decide (k < 4)) (fun k => dq (row m k) v)), .int .i64 0]) = Ending.returned (.tuple #[Nm (appV m v), .int .i64 (appE m v)]) := by
  have e : outP 4 (fun k => decide (k < 4)) (fun k => dq (row m k) v) = outP 4 (fun _ => true) (fun k => dq (row m k) v) :=
    outP_congr fun k hk => ⟨by simpa using hk, fun _ => rfl⟩
  rw [appV, appE, if_pos h, if_pos h, e]
theorem rapply (m v : List Int) (w : World) (hm : Ok64 m) (hv : Ok64 v) (lm : m.length = 16) (lv : v.length = 4) : Calls Try.prog 39 #[Nm m, Nm v] w fun e w' => e = .returned (.tuple #[Nm (appV m v), .int .i64 (appE m v)]) ∧ Below w.heap.size w w' := by
  obtain ⟨v0, v1, v2, v3, rfl⟩ := len4 lv
  have hz : Decidable (within 4611686018427387904 m) := inferInstance
  refine EW.eEnter Try.func39 rfl Try.ntmps39 ?_
  all_goals try (refine EW.nm ?_)
  all_goals try ((first | refine EW.eRegL (id := 0) ?_ | refine EW.eReg (id := 0) ?_); refine EW.eBox ?_; refine EW.eBox ?_; refine EW.eAlloc ?_; refine EW.eAssign ?_; refine EW.eEnd ?_; (try refine EW.nm ?_))
  all_goals try ((first | refine EW.eRegL (id := 1) ?_ | refine EW.eReg (id := 1) ?_); refine EW.eLoadA (k := 16) ?_; (first | refine EW.eCall Try.call53 (fun w => rwithin m 4611686018427387904 w lm (by omega) (by omega)) ?_ | refine EW.eCall Try.call53 (fun w => rwithin (vec16 [v0, v1, v2, v3]) 4611686018427387904 w rfl (by omega) (by omega)) ?_); refine EW.eAssign ?_; refine EW.eEnd ?_; (try refine EW.nm ?_))
  all_goals try ((first | refine EW.eRegL (id := 2) ?_ | refine EW.eReg (id := 2) ?_); refine EW.eLoadA (k := 4) ?_; refine EW.eBuild ?_ (hl := bvec v0 v1 v2 v3); (first | refine EW.eCall Try.call53 (fun w => rwithin m 4611686018427387904 w lm (by omega) (by omega)) ?_ | refine EW.eCall Try.call53 (fun w => rwithin (vec16 [v0, v1, v2, v3]) 4611686018427387904 w rfl (by omega) (by omega)) ?_); refine EW.eAssign ?_; refine EW.eEnd ?_; (try refine EW.nm ?_))
  all_goals try ((first | refine EW.eRegL (id := 3) ?_ | refine EW.eReg (id := 3) ?_); refine EW.eMove ?_; refine EW.eNot ?_; refine EW.eMove ?_)
  all_goals try (refine EW.eGuard (j := 2) (o := ⟨some 20, _, _, _, _, _⟩) ?_ ?_ <;> (intro hb hb'; (try dsimp only at hb'); (try (exfalso; first | omega | with_reducible exact absurd rfl hb'))))
  all_goals try ((first | refine EW.eSkipF (j := 2) ?_ | refine EW.eSkipU (j := 2) ?_ | refine EW.eMove ?_); (first | refine EW.eSkipF (j := 2) ?_ | refine EW.eSkipU (j := 2) ?_ | refine EW.eNot ?_); (first | refine EW.ePickT ?_ | refine EW.ePickF ?_); refine EW.eEnd ?_; (try refine EW.nm ?_))
  all_goals try (first | refine EW.eYes (x := Operand.tmp 22) ?_ | refine EW.eNo (x := Operand.tmp 22) ?_ | (refine EW.eCond (x := Operand.tmp 22) ?_ ?_ <;> (intro hb hb'; (try dsimp only at hb'); (try (exfalso; first | omega | with_reducible exact absurd rfl hb')))))
  all_goals try (refine EW.nm ?_)
  all_goals try ((first | refine EW.eRegL (id := 4) ?_ | refine EW.eReg (id := 4) ?_); refine EW.eBuild (place := fun i => some (i * 1, 1)) ?_; (first | refine EW.eStoreW (k := 4) ?_ | refine EW.eStore (k := 4) ?_); refine EW.eAssign ?_; refine EW.eEnd ?_; (try refine EW.nm ?_))
  all_goals try (with_reducible refine EW.parkK ?_)
  all_goals try ((first | refine EW.eRegL (id := 5) ?_ | refine EW.eReg (id := 5) ?_); refine EW.eBuild (place := fun i => some (i * 1, 1)) ?_; refine EW.eAlloc ?_; (first | refine EW.eStoreW (k := 4) ?_ | refine EW.eStore (k := 4) ?_); refine EW.eEnd ?_; (try refine EW.nm ?_))
  all_goals (try refine EW.eToW 40 true (nums .i64 (outP 4 (fun _ => false) (fun k => dq (row m k) [v0, v1, v2, v3]))) ?_)
  all_goals try ((first | refine EW.eRegL (id := 6) ?_ | refine EW.eReg (id := 6) ?_); refine EW.eAssign ?_; refine EW.eEnd ?_; (try refine EW.nm ?_))
  all_goals first | (fail_if_success (refine EW.eUnroll 1 ?_)) | (refine EW.eLoopD [5, 9, 10, 11, 25, 26, 27, 28, 29, 30, 31, 32, 33, 34, 35, 36, 37, 38, 39, 40, 41, 42] 1000000 (fun j : {i : Nat // i ≤ 4 ∧ ∀ k, k < i → sumOk (row m k) [v0, v1, v2, v3]} => [(.t 9, .v (.c (.v (.int .i64 (j.1 : Int))))), (.b 40, .b (.w true (nums .i64 (outP 4 (fun k => decide (k < j.1)) (fun k => dq (row m k) [v0, v1, v2, v3])))))]) (fun j => 4 - j.1) (⟨0, by omega, by intro k h; omega⟩) (by ((repeat (first | exact EW.subW.nil | refine EW.subW.cons rfl ?_ | refine EW.subW.conv rfl ?_ (by first | exact EW.kvW (app_next (by assumption)) | exact EW.kvW (by simp)) | refine EW.subW.conv rfl ?_)); (first | done | fail))) ?_; rintro hcl7 ⟨i, hi, hk⟩; (try dsimp only))
  all_goals try (refine EW.nm ?_)
  all_goals try ((first | refine EW.eRegL (id := 7) ?_ | refine EW.eReg (id := 7) ?_); refine EW.eMove ?_; refine EW.eLss ?_; refine EW.eEnd ?_; (try refine EW.nm ?_))
  all_goals try (first | refine EW.eYes (x := Operand.tmp 26) ?_ | refine EW.eNo (x := Operand.tmp 26) ?_ | (refine EW.eCond (x := Operand.tmp 26) ?_ ?_ <;> (intro hb hb'; (try dsimp only at hb'); (try (exfalso; first | omega | with_reducible exact absurd rfl hb')))))
  all_goals try (refine EW.nm ?_)
  all_goals try ((first | refine EW.eRegL (id := 9) ?_ | refine EW.eReg (id := 9) ?_); refine EW.eMove ?_; refine EW.eIndexAddr (z := 4) ?_; refine EW.eLoadA (k := 4) ?_; refine EW.eLoadA (k := 4) ?_; refine EW.eCall Try.call54 (fun w => rsum (row m i) [v0, v1, v2, v3] w (row_ok i hm) hv (row_len (by omega) lm) rfl) ?_; refine EW.eMove ?_; (first | refine EW.eExtC ?_ | refine EW.eExtA ?_); (first | refine EW.eExtC ?_ | refine EW.eExtA ?_); refine EW.eAssign ?_; refine EW.eAssign ?_; refine EW.eDraw ?_; (try refine EW.nm ?_))
  all_goals try ((first | refine EW.eRegL (id := 10) ?_ | refine EW.eReg (id := 10) ?_); refine EW.eMove ?_; refine EW.eNot ?_; refine EW.eEnd ?_; (try refine EW.nm ?_))
  all_goals try (first | refine EW.eYes (x := Operand.tmp 38) ?_ | refine EW.eNo (x := Operand.tmp 38) ?_ | (refine EW.eCond (x := Operand.tmp 38) ?_ ?_ <;> (intro hb hb'; (try dsimp only at hb'); (try (exfalso; first | omega | with_reducible exact absurd rfl hb')))))
  all_goals try (refine EW.nm ?_)
  all_goals try ((first | refine EW.eRegL (id := 11) ?_ | refine EW.eReg (id := 11) ?_); refine EW.eBuild (place := fun i => some (i * 1, 1)) ?_; (first | refine EW.eStoreW (k := 4) ?_ | refine EW.eStore (k := 4) ?_); refine EW.eAssign ?_; refine EW.eEnd ?_; (try refine EW.nm ?_))
  all_goals try (with_reducible refine EW.parkK ?_)
  all_goals try ((first | refine EW.eRegL (id := 12) ?_ | refine EW.eReg (id := 12) ?_); refine EW.eMove ?_; refine EW.eMove ?_; refine EW.eIndexAddr (z := 1) ?_; (first | refine EW.eStoreW (k := 1) ?_ | refine EW.eStore (k := 1) ?_); refine EW.eEnd ?_; (try refine EW.nm ?_))
  all_goals try ((first | refine EW.eRegL (id := 8) ?_ | refine EW.eReg (id := 8) ?_); refine EW.eMove ?_; refine EW.eAdd ?_; refine EW.eAssign ?_; refine EW.eEnd ?_; (try refine EW.nm ?_))
  all_goals first | (fail_if_success (with_reducible refine EW.isLater ?_)) | (refine EW.eLaterD (⟨i + 1, by omega, ok_next hk (by assumption)⟩) (by dsimp only; omega) (by ((repeat (first | exact EW.subW.nil | refine EW.subW.cons rfl ?_ | refine EW.subW.conv rfl ?_ (by first | exact EW.kvW (app_next (by assumption)) | exact EW.kvW (by simp)) | refine EW.subW.conv rfl ?_)); (first | done | fail))) hcl7)
  all_goals try (refine EW.nm ?_)
  all_goals try ((first | refine EW.eRegL (id := 13) ?_ | refine EW.eReg (id := 13) ?_); refine EW.eLoadA (k := 4) ?_; (first | refine EW.eStoreW (k := 4) ?_ | refine EW.eStore (k := 4) ?_); refine EW.eAssign ?_; refine EW.eEnd ?_; (try refine EW.nm ?_))
  all_goals try (with_reducible refine EW.parkK ?_)
  all_goals try (refine EW.Park.mk ?_)
  all_goals (refine EW.eLeaveP ?_; intro w' hW; refine ⟨?_, hW⟩)
  · exact app_no fun h => by have := h.1; contradiction
  · exact app_no fun h => by have := h.2.1; contradiction
  · exact app_no fun h => by have := h.2.2 i (by omega); contradiction
  · obtain rfl : i = 4 := by omega
    exact app_yes ⟨by assumption, by assumption, hk⟩
theorem appV_len (m v : List Int) : (appV m v).length = 4 := by unfold appV; split <;> simp [outP_len]
end Go.Proofs.Ythclhmdgfekaeaa
