/- image: nearer, Over; the document's. -/
import Derived.Test.YtnmkpekfkfckoaaHPxO
namespace Go.Proofs.Ytnmkpekfkfckoaa
set_option linter.unusedSimpArgs false
set_option linter.unusedVariables false
open Go.RowKit EV
open SX (Wr Tv Qu Rm Sh Is conjP eqs_iff eqs_false)
open EW (PlL PlT PlV PlVs LfV Mm Bt Opn GV YT lpOf nums)
set_option maxRecDepth 20000
theorem dnear (a b : Px) (w : World) : Calls Try.prog 78 #[a.val, b.val] w fun e w' => e = .returned (a.near b).val ∧ Below w.heap.size w w' := by
  rw [Px.near_eq]
  have hr := rahead b a
  by_cases h : b.ahead a
  · rw [if_pos h]
    rw [decide_eq_true h] at hr
    clear h
    obtain ⟨z, o, t, c⟩ := a
    obtain ⟨z', o', t', c'⟩ := b
    refine EW.eEnter Try.func78 rfl Try.ntmps78 ?_
    all_goals try (refine EW.nm ?_)
    all_goals try (refine EW.eReg (id := 0) ?_; refine EW.eBox ?_; refine EW.eBox ?_; refine EW.eAlloc ?_; refine EW.eEnd ?_; (try refine EW.nm ?_))
    all_goals try (refine EW.eReg (id := 1) ?_; refine EW.eLoadA (k := 4) ?_; refine EW.eLoadA (k := 4) ?_; refine EW.eCall Try.call93 (fun w => hr w) ?_; refine EW.eAssign ?_; refine EW.eEnd ?_; (try refine EW.nm ?_))
    all_goals try (refine EW.eReg (id := 2) ?_; refine EW.eMove ?_; refine EW.eEnd ?_; (try refine EW.nm ?_))
    all_goals try (first | refine EW.eYes (x := .tmp 9) ?_ | refine EW.eNo (x := .tmp 9) ?_ | (refine EW.eCond (x := .tmp 9) ?_ ?_ <;> (intro hb hb'; (try dsimp only at hb'); (try (exfalso; first | omega | with_reducible exact absurd rfl hb')))))
    all_goals try (refine EW.nm ?_)
    all_goals try (refine EW.eReg (id := 3) ?_; refine EW.eLoadA (k := 4) ?_; (first | refine EW.eStoreW (k := 4) ?_ | refine EW.eStore (k := 4) ?_); refine EW.eEnd ?_; (try refine EW.nm ?_))
    all_goals try (with_reducible refine EW.parkK ?_)
    all_goals try (refine EW.eReg (id := 4) ?_; refine EW.eLoadA (k := 4) ?_; (first | refine EW.eStoreW (k := 4) ?_ | refine EW.eStore (k := 4) ?_); refine EW.eEnd ?_; (try refine EW.nm ?_))
    all_goals try (with_reducible refine EW.parkK ?_)
    all_goals try (refine EW.Park.mk ?_)
    all_goals (refine EW.eLeaveP ?_; intro w' hW; refine ⟨?_, hW⟩)
    all_goals rfl
  · rw [if_neg h]
    rw [decide_eq_false h] at hr
    clear h
    obtain ⟨z, o, t, c⟩ := a
    obtain ⟨z', o', t', c'⟩ := b
    refine EW.eEnter Try.func78 rfl Try.ntmps78 ?_
    all_goals try (refine EW.nm ?_)
    all_goals try (refine EW.eReg (id := 0) ?_; refine EW.eBox ?_; refine EW.eBox ?_; refine EW.eAlloc ?_; refine EW.eEnd ?_; (try refine EW.nm ?_))
    all_goals try (refine EW.eReg (id := 1) ?_; refine EW.eLoadA (k := 4) ?_; refine EW.eLoadA (k := 4) ?_; refine EW.eCall Try.call93 (fun w => hr w) ?_; refine EW.eAssign ?_; refine EW.eEnd ?_; (try refine EW.nm ?_))
    all_goals try (refine EW.eReg (id := 2) ?_; refine EW.eMove ?_; refine EW.eEnd ?_; (try refine EW.nm ?_))
    all_goals try (first | refine EW.eYes (x := .tmp 9) ?_ | refine EW.eNo (x := .tmp 9) ?_ | (refine EW.eCond (x := .tmp 9) ?_ ?_ <;> (intro hb hb'; (try dsimp only at hb'); (try (exfalso; first | omega | with_reducible exact absurd rfl hb')))))
    all_goals try (refine EW.nm ?_)
    all_goals try (refine EW.eReg (id := 3) ?_; refine EW.eLoadA (k := 4) ?_; (first | refine EW.eStoreW (k := 4) ?_ | refine EW.eStore (k := 4) ?_); refine EW.eEnd ?_; (try refine EW.nm ?_))
    all_goals try (with_reducible refine EW.parkK ?_)
    all_goals try (refine EW.eReg (id := 4) ?_; refine EW.eLoadA (k := 4) ?_; (first | refine EW.eStoreW (k := 4) ?_ | refine EW.eStore (k := 4) ?_); refine EW.eEnd ?_; (try refine EW.nm ?_))
    all_goals try (with_reducible refine EW.parkK ?_)
    all_goals try (refine EW.Park.mk ?_)
    all_goals (refine EW.eLeaveP ?_; intro w' hW; refine ⟨?_, hW⟩)
    all_goals rfl
/-- The nearer ones, place by place. -/
def nearL (a b : List Px) : List Px := List.zipWith Px.near a b
theorem nearL_len {a b : List Px} (h : a.length = b.length) : (nearL a b).length = a.length := by simp [nearL, h]
theorem nearL_at {a b : List Px} {i : Nat} (h : a.length = b.length) (hi : i < a.length) : (nearL a b).getD i Px.zero = (a.getD i Px.zero).near (b.getD i Px.zero) := by
  simp [nearL, List.getD_eq_getElem?_getD, List.getElem?_zipWith, List.getElem?_eq_getElem hi, List.getElem?_eq_getElem (show i < b.length by omega)]
theorem nearL_is {a b y : List Px} (h : a.length = b.length) (hy : y.length = a.length) (hp : ∀ i, i < a.length → y.getD i Px.zero = (a.getD i Px.zero).near (b.getD i Px.zero)) : y = nearL a b := by
  apply List.ext_getElem?
  intro i
  rcases Nat.lt_or_ge i a.length with hi | hi
  · have h1 := hp i hi
    rw [← nearL_at h hi] at h1
    rw [List.getD_eq_getElem?_getD, List.getD_eq_getElem?_getD, List.getElem?_eq_getElem (by omega), List.getElem?_eq_getElem (by rw [nearL_len h]; omega)] at h1
    rw [List.getElem?_eq_getElem (by omega), List.getElem?_eq_getElem (by rw [nearL_len h]; omega)]
    simpa using h1
  · rw [List.getElem?_eq_none (by omega), List.getElem?_eq_none (by rw [nearL_len h]; omega)]
theorem set_at {y : List Px} {i q : Nat} {p : Px} (hi : i < y.length) : (y.set i p).getD q Px.zero = if q = i then p else y.getD q Px.zero := by
  rw [List.getD_eq_getElem?_getD, List.getD_eq_getElem?_getD, List.getElem?_set]
  by_cases h : i = q
  · subst h; simp [hi]
  · rw [if_neg h, if_neg (fun e => h e.symm)]
abbrev pair (a b : Px) : List C := [.v (.int .u32 a.z), .v (.int .i64 a.o), .v (.int .i64 a.t), .v (.int .u32 a.c), .v (.int .u32 b.z), .v (.int .i64 b.o), .v (.int .i64 b.t), .v (.int .u32 b.c)]
noncomputable def lpN (o1 d : Nat) : LoopK := lpOf Try.f53 0 [(5, .c (.p o1 0))] d
noncomputable def WNy (y : List Px) (n : Nat) : Ws := [(.l 0, .l true), (.b 0, .b (.lp (lpN 1 2))), (.l 1, .l true), (.b 1, .b (.m true [.s 3 0 n n])), (.l 2, .l true), (.b 2, .b .df), (.l 3, .l true), (.b 3, .b (.w true (pvs y)))]
instance (j : Nat) (l : List Px) (z o t c : Int) : EW.PutA (j * 4) [.int .u32 z, .int .i64 o, .int .i64 t, .int .u32 c] (pvs l) (pvs (l.set j ⟨z, o, t, c⟩)) (j < l.length) := ⟨fun h => pvs_put l j ⟨z, o, t, c⟩ h⟩
theorem near_y (y : List Px) (n i : Nat) (a b : Px) (hn : y.length = n) (hi : i < n) (h1 : n ≤ 10000) : YT Try.prog [.c (.v (.int .i64 (i : Int))), .a (pair a b)] (upd EW.emp (WNy y n)) 4 4 none (upd (upd EW.emp (WNy y n)) [(.b 3, .b (.w true (pvs (y.set i (a.near b)))))]) := by
  have hN := pnear a b
  obtain ⟨q, hq⟩ : ∃ q, a.near b = q := ⟨_, rfl⟩
  rw [hq] at hN ⊢
  obtain ⟨a0, a1, a2, a3⟩ := a
  obtain ⟨b0, b1, b2, b3⟩ := b
  obtain ⟨q0, q1, q2, q3⟩ := q
  clear hq
  refine EW.ytEnter (ws := [(.t 14, .v (.c (.v (.int .i64 (i : Int))))), (.t 15, .v (.a (pair ⟨a0, a1, a2, a3⟩ ⟨b0, b1, b2, b3⟩))), (.t 5, .v (.c (.p 1 0)))]) EW.sup1 rfl rfl EW.nlP rfl rfl rfl rfl rfl rfl ⟨rfl⟩ ?_; intro w0 tch ini nn R hR
  all_goals try (refine EW.nm ?_)
  all_goals try (refine EW.eReg (id := 3) ?_; refine EW.eAssign ?_; refine EW.eEnd ?_; (try refine EW.nm ?_))
  all_goals try (refine EW.eReg (id := 4) ?_; refine EW.eAlloc ?_; (first | refine EW.eStoreW (k := 8) ?_ | refine EW.eStore (k := 8) ?_); refine EW.eEnd ?_; (try refine EW.nm ?_))
  all_goals try (refine EW.eBegin rfl rfl rfl rfl ?_)
  all_goals try (refine EW.nm ?_)
  all_goals try (refine EW.eReg (id := 5) ?_; refine EW.eLoad1 ?_; refine EW.eMove ?_; refine EW.eFieldAddr (k := 4) ?_; refine EW.eLoadA (k := 4) ?_; refine EW.eFieldAddr (k := 4) ?_; refine EW.eLoadA (k := 4) ?_; refine EW.eCall Try.call82 (fun w => hN w) ?_; (first | refine EW.eIndexAddrS (z := 4) ?_ | refine EW.eIndexAddrG (z := 4) ?_); (first | refine EW.eStoreW (k := 4) ?_ | refine EW.eStore (k := 4) ?_); refine EW.eDraw ?_; (try refine EW.nm ?_))
  all_goals try (refine EW.Park.mk ?_)
  all_goals (refine EW.eRoundEnd [] hR rfl rfl rfl rfl ?_ rfl rfl EW.nlP rfl; (· ((repeat (first | exact EW.atE.nil | refine EW.atE.lt rfl ?_ | refine EW.atE.lf ?_ | refine EW.atE.b rfl EW.SameB.refl ?_ | (refine EW.atE.b rfl ?_ ?_; rotate_left 1))))))
end Go.Proofs.Ytnmkpekfkfckoaa
