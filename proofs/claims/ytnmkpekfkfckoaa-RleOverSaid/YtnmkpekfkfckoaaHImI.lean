import Derived.Test.YtnmkpekfkfckoaaHEwU
import Derived.Test.YtnmkpekfkfckoaaHIm3
/- image: Twin, twin, kept; slices.Clone of any pixels. -/
namespace Go.Proofs.Ytnmkpekfkfckoaa
set_option linter.unusedSimpArgs false
set_option linter.unusedVariables false
open Go.RowKit EV
open SX (Wr Tv Qu Rm Sh Is conjP eqs_iff eqs_false)
open EW (PlL PlT PlV PlVs LfV Mm Bt Opn GV YT lpOf nums)
set_option maxRecDepth 20000
theorem pvs_head (l t : List Px) : EW.Sub (pvs (l ++ t)) (pvs l) 0 := by
  have := pvs_part (l := l ++ t) (a := 0) (k := l.length) (by simp)
  simpa using this
end Go.Proofs.Ytnmkpekfkfckoaa
/- image: Cut; the document's. -/
/- image: Paste; the document's. -/
namespace Go.Proofs.Ytnmkpekfkfckoaa
set_option linter.unusedSimpArgs false
set_option linter.unusedVariables false
open Go.RowKit EV
open SX (Wr Tv Qu Rm Sh Is conjP eqs_iff eqs_false)
open EW (PlL PlT PlV PlVs LfV Mm Bt Opn GV YT lpOf nums)
set_option maxRecDepth 20000
theorem pvs_put0 : ∀ (m l : List Px), put0 (pvs m) (pvs l) = pvs (put0 m l)
  | [], l => by cases l <;> rfl
  | x :: xs, [] => rfl
  | x :: xs, y :: l => by
    have := pvs_put0 xs l
    simp only [pvs, List.flatMap_cons, put0] at this ⊢
    simp only [Px.vals, List.cons_append, List.nil_append, put0]
    exact congrArg _ (congrArg _ (congrArg _ (congrArg _ this)))
theorem pvs_putL : ∀ (a : Nat) (m l : List Px), putL (a * 4) (pvs m) (pvs l) = pvs (putL a m l)
  | 0, m, l => by rw [Nat.zero_mul]; exact pvs_put0 m l
  | a + 1, m, [] => by rw [show (a + 1) * 4 = a * 4 + 1 + 1 + 1 + 1 by omega]; rfl
  | a + 1, m, y :: l => by
    have := pvs_putL a m l
    rw [show (a + 1) * 4 = a * 4 + 1 + 1 + 1 + 1 by omega]
    simp only [pvs, List.flatMap_cons, putL] at this ⊢
    simp only [Px.vals, List.cons_append, List.nil_append, putL]
    exact congrArg _ (congrArg _ (congrArg _ (congrArg _ this)))
/-- A span that may be. -/
def spOk (l : List Px) : Prop := l.length ≤ 4096 ∧ ∀ i, i < l.length → mayAt l i
theorem whole_n (o : Bool) (l : List Px) (hl : l.length ≤ 10000) (hn : ¬ spOk l) : CT Try.prog 52 [.c (.g 0 0 l.length l.length 4)] (upd EW.emp (WP o l)) 1 1 (.c (.v (.bool false))) (upd (upd EW.emp (WP o l)) []) := by
  rcases Nat.lt_or_ge 4096 l.length with h | h
  · exact whole_far o l h hl
  · obtain ⟨t, h1, h2, h3⟩ := least_not (l := l) fun hs => hn ⟨h, hs⟩
    exact whole_no o l t h h1 h2 h3
end Go.Proofs.Ytnmkpekfkfckoaa
/- The order of pixels: plain laws. -/
namespace Go.Proofs.Ytnmkpekfkfckoaa
theorem Px.rcmp_eq (a b : Px) : a.cmp b = a.rcmp b := by
  obtain ⟨z, o, t, c⟩ := a
  obtain ⟨z', o', t', c'⟩ := b
  simp only [Px.cmp, Px.rcmp, Px.ahead, or4, cmpI]
  repeat' split
  all_goals first | rfl | omega
theorem Px.ahead_irrefl (a : Px) : ¬ a.ahead a := by unfold Px.ahead; omega
theorem Px.ahead_asymm {a b : Px} (h : a.ahead b) : ¬ b.ahead a := by unfold Px.ahead at *; omega
theorem Px.ahead_total {a b : Px} (h : ¬ a.ahead b) (h' : ¬ b.ahead a) : a = b := by
  refine Px.ext4 ?_
  unfold Px.ahead at *; omega
theorem Px.cmp_lt (a b : Px) : a.cmp b < 0 ↔ a.ahead b := by
  rw [Px.rcmp_eq, Px.rcmp]
  by_cases h : a.ahead b
  · simp [h]
  · simp only [h, if_false, iff_false]; split <;> omega
theorem Px.near_eq (a b : Px) : a.near b = if b.ahead a then b else a := by
  unfold Px.near
  by_cases h : b.ahead a
  · rw [if_pos ((Px.cmp_lt _ _).2 h), if_pos h]
  · rw [if_neg (fun h' => h ((Px.cmp_lt _ _).1 h')), if_neg h]
/-- a stands at least as near as b. -/
def Px.le (a b : Px) : Prop := ¬ b.ahead a
theorem Px.le_refl (a : Px) : a.le a := Px.ahead_irrefl a
theorem Px.le_trans {a b c : Px} (h : a.le b) (h' : b.le c) : a.le c := by unfold Px.le Px.ahead at *; omega
theorem Px.le_antisymm {a b : Px} (h : a.le b) (h' : b.le a) : a = b := (Px.ahead_total (a := b) (b := a) h h').symm
theorem Px.near_le1 (a b : Px) : (a.near b).le a := by
  rw [Px.near_eq]; split
  · next h => exact Px.ahead_asymm h
  · exact Px.le_refl _
theorem Px.near_le2 (a b : Px) : (a.near b).le b := by
  rw [Px.near_eq]; split
  · exact Px.le_refl _
  · next h => exact h
theorem Px.near_mem (a b : Px) : a.near b = a ∨ a.near b = b := by
  rw [Px.near_eq]; split <;> simp
end Go.Proofs.Ytnmkpekfkfckoaa
/- image: nearer, Over; the document's. -/
namespace Go.Proofs.Ytnmkpekfkfckoaa
set_option linter.unusedSimpArgs false
set_option linter.unusedVariables false
open Go.RowKit EV
open SX (Wr Tv Qu Rm Sh Is conjP eqs_iff eqs_false)
open EW (PlL PlT PlV PlVs LfV Mm Bt Opn GV YT lpOf nums)
set_option maxRecDepth 20000
/-- The nearer ones, place by place. -/
def nearL (a b : List Px) : List Px := List.zipWith Px.near a b
theorem nearL_len {a b : List Px} (h : a.length = b.length) : (nearL a b).length = a.length := by simp [nearL, h]
theorem nearL_at {a b : List Px} {i : Nat} (h : a.length = b.length) (hi : i < a.length) : (nearL a b).getD i Px.zero = (a.getD i Px.zero).near (b.getD i Px.zero) := by
  simp [nearL, List.getD_eq_getElem?_getD, List.getElem?_zipWith, List.getElem?_eq_getElem hi, List.getElem?_eq_getElem (show i < b.length by omega)]
theorem nearL_is {a b y : List Px} (h : a.length = b.length) (hy : y.length = a.length) (hp : ∀ i, i < a.length → y.getD i Px.zero = (a.getD i Px.zero).near (b.getD i Px.zero)) : y = nearL a b := by
  apply List.ext_getElem?
  intro i
  rcases Nat.lt_or_ge i a.length with hi | hi
  · have h1 := hp i hi
    rw [← nearL_at h hi] at h1
    rw [List.getD_eq_getElem?_getD, List.getD_eq_getElem?_getD, List.getElem?_eq_getElem (by omega), List.getElem?_eq_getElem (by rw [nearL_len h]; omega)] at h1
    rw [List.getElem?_eq_getElem (by omega), List.getElem?_eq_getElem (by rw [nearL_len h]; omega)]
    simpa using h1
  · rw [List.getElem?_eq_none (by omega), List.getElem?_eq_none (by rw [nearL_len h]; omega)]
theorem set_at {y : List Px} {i q : Nat} {p : Px} (hi : i < y.length) : (y.set i p).getD q Px.zero = if q = i then p else y.getD q Px.zero := by
  rw [List.getD_eq_getElem?_getD, List.getD_eq_getElem?_getD, List.getElem?_set]
  by_cases h : i = q
  · subst h; simp [hi]
  · rw [if_neg h, if_neg (fun e => h e.symm)]
abbrev pair (a b : Px) : List C := [.v (.int .u32 a.z), .v (.int .i64 a.o), .v (.int .i64 a.t), .v (.int .u32 a.c), .v (.int .u32 b.z), .v (.int .i64 b.o), .v (.int .i64 b.t), .v (.int .u32 b.c)]
noncomputable def lpN (o1 d : Nat) : LoopK := lpOf Try.f53 0 [(5, .c (.p o1 0))] d
noncomputable def WNy (y : List Px) (n : Nat) : Ws := [(.l 0, .l true), (.b 0, .b (.lp (lpN 1 2))), (.l 1, .l true), (.b 1, .b (.m true [.s 3 0 n n])), (.l 2, .l true), (.b 2, .b .df), (.l 3, .l true), (.b 3, .b (.w true (pvs y)))]
instance (j : Nat) (l : List Px) (z o t c : Int) : EW.PutA (j * 4) [.int .u32 z, .int .i64 o, .int .i64 t, .int .u32 c] (pvs l) (pvs (l.set j ⟨z, o, t, c⟩)) (j < l.length) := ⟨fun h => pvs_put l j ⟨z, o, t, c⟩ h⟩
theorem near_y (y : List Px) (n i : Nat) (a b : Px) (hn : y.length = n) (hi : i < n) (h1 : n ≤ 10000) : YT Try.prog [.c (.v (.int .i64 (i : Int))), .a (pair a b)] (upd EW.emp (WNy y n)) 4 4 none (upd (upd EW.emp (WNy y n)) [(.b 3, .b (.w true (pvs (y.set i (a.near b)))))]) := by
  have hN := pnear a b
  obtain ⟨q, hq⟩ : ∃ q, a.near b = q := ⟨_, rfl⟩
  rw [hq] at hN ⊢
  obtain ⟨a0, a1, a2, a3⟩ := a
  obtain ⟨b0, b1, b2, b3⟩ := b
  obtain ⟨q0, q1, q2, q3⟩ := q
  clear hq
  refine EW.ytEnter (ws := [(.t 14, .v (.c (.v (.int .i64 (i : Int))))), (.t 15, .v (.a (pair ⟨a0, a1, a2, a3⟩ ⟨b0, b1, b2, b3⟩))), (.t 5, .v (.c (.p 1 0)))]) EW.sup1 rfl rfl EW.nlP rfl rfl rfl rfl rfl rfl ⟨rfl⟩ ?_; intro w0 tch ini nn R hR
  all_goals try (refine EW.nm ?_)
  all_goals try (refine EW.eReg (id := 3) ?_; refine EW.eAssign ?_; refine EW.eEnd ?_; (try refine EW.nm ?_))
  all_goals try (refine EW.eReg (id := 4) ?_; refine EW.eAlloc ?_; (first | refine EW.eStoreW (k := 8) ?_ | refine EW.eStore (k := 8) ?_); refine EW.eEnd ?_; (try refine EW.nm ?_))
  all_goals try (refine EW.eBegin rfl rfl rfl rfl ?_)
  all_goals try (refine EW.nm ?_)
  all_goals try (refine EW.eReg (id := 5) ?_; refine EW.eLoad1 ?_; refine EW.eMove ?_; refine EW.eFieldAddr (k := 4) ?_; refine EW.eLoadA (k := 4) ?_; refine EW.eFieldAddr (k := 4) ?_; refine EW.eLoadA (k := 4) ?_; refine EW.eCall Try.call82 (fun w => hN w) ?_; (first | refine EW.eIndexAddrS (z := 4) ?_ | refine EW.eIndexAddrG (z := 4) ?_); (first | refine EW.eStoreW (k := 4) ?_ | refine EW.eStore (k := 4) ?_); refine EW.eDraw ?_; (try refine EW.nm ?_))
  all_goals try (refine EW.Park.mk ?_)
  all_goals (refine EW.eRoundEnd [] hR rfl rfl rfl rfl ?_ rfl rfl EW.nlP rfl; (· ((repeat (first | exact EW.atE.nil | refine EW.atE.lt rfl ?_ | refine EW.atE.lf ?_ | refine EW.atE.b rfl EW.SameB.refl ?_ | (refine EW.atE.b rfl ?_ ?_; rotate_left 1))))))
end Go.Proofs.Ytnmkpekfkfckoaa
