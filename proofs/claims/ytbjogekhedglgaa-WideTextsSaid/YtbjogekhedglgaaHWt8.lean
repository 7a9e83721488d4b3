/- WideTexts: what comes in. -/
import Derived.Test.YtbjogekhedglgaaHWt7
import Derived.Test.YtbjogekhedglgaaHZR
namespace Go.Proofs.Ytbjogekhedglgaa
set_option linter.unusedSimpArgs false
set_option linter.unusedVariables false
open Go.RowKit EV
open EW (PlL PlT PlV PlVs nums)
set_option maxRecDepth 20000
theorem nums_of_rows : ∀ {rows : List (List Value)}, (∀ s ∈ rows, Fit [.i .i64] s) → ∃ l : List Int, l.length = rows.length ∧ rows.flatten = nums .i64 l ∧ ∀ x ∈ l, -9223372036854775808 ≤ x ∧ x ≤ 9223372036854775807
  | [], _ => ⟨[], rfl, rfl, fun x hx => by cases hx⟩
  | r :: rows, h => by
    obtain ⟨l, h1, h2, h3⟩ := nums_of_rows (rows := rows) (fun s hs => h s (by simp [hs]))
    obtain ⟨z, _, rfl, z0, z1, rfl⟩ := h r (by simp)
    refine ⟨z :: l, by simp [h1], by rw [List.flatten_cons, h2]; rfl, fun x hx => ?_⟩
    rcases List.mem_cons.1 hx with rfl | hx
    · exact rg_i64 ⟨z0, z1⟩
    · exact h3 x hx
theorem ok64_of {l : List Int} (h : ∀ x ∈ l, -9223372036854775808 ≤ x ∧ x ≤ 9223372036854775807) : Ok64 l := fun i => by
  rw [List.getD_eq_getElem?_getD]
  rcases Nat.lt_or_ge i l.length with hi | hi
  · rw [List.getElem?_eq_getElem hi]; exact h _ (List.getElem_mem hi)
  · rw [List.getElem?_eq_none hi]; exact ⟨by decide, by decide⟩
theorem nums_one (k : IntKind) (l : List Int) : ∀ x ∈ nums k l, x.oneCell' = true := by
  intro x hx
  simp only [nums, List.mem_map] at hx
  obtain ⟨y, _, rfl⟩ := hx
  rfl
def byt (b : ByteArray) : List Int := b.data.toList.map fun u => (u.toNat : Int)
theorem byt_by (b : ByteArray) : By (byt b) := fun x hx => by
  simp only [byt, List.mem_map] at hx
  obtain ⟨u, _, rfl⟩ := hx
  have := u.toNat_lt
  omega
theorem byt_U (b : ByteArray) : U (byt b) = b.data.toList := by
  simp only [U, byt, List.map_map]
  conv => rhs; rw [← List.map_id b.data.toList]
  refine List.map_congr_left fun u _ => ?_
  simp
theorem byt_str (b : ByteArray) : Value.string b = tS (U (byt b)) := by
  rw [byt_U, tS]
theorem texts_row (W : World) (h l : Int) (b : ByteArray) {b2 o2 len2 cap2 b3 o3 len3 cap3 : Nat} {rows2 rows3 : List (List Value)} {v2 v3 : Value} (hl2 : rows2.length = len2) (ft2 : ∀ s ∈ rows2, Fit [.i .i64] s) (sr2 : Src W b2 o2 rows2.flatten) (hv2 : v2 = .slice (some ⟨b2, o2, none⟩) len2 cap2 ∨ (len2 = 0 ∧ cap2 = 0 ∧ v2 = .slice none 0 0)) (hl3 : rows3.length = len3) (ft3 : ∀ s ∈ rows3, Fit [.i .i64] s) (sr3 : Src W b3 o3 rows3.flatten) (hv3 : v3 = .slice (some ⟨b3, o3, none⟩) len3 cap3 ∨ (len3 = 0 ∧ cap3 = 0 ∧ v3 = .slice none 0 0))
    (g1 : -9223372036854775808 ≤ h) (g2 : h ≤ 9223372036854775807) (g3 : 0 ≤ l) (g4 : l < 18446744073709551616) :
    Calls Try.prog 6 #[.agg #[.int .i64 h, .int .u64 l], .string b, v2, v3] W fun e w' => e = .returned (.bool true) ∧ Below W.heap.size W w' := by
  obtain ⟨la, e1, e2, e3⟩ := nums_of_rows ft2
  obtain ⟨lb, f1, f2, f3⟩ := nums_of_rows ft3
  rw [e2] at sr2
  rw [f2] at sr3
  have hA := ok64_of e3
  have hB := ok64_of f3
  obtain ⟨x, hx, hX⟩ : ∃ x : Int, In128 x ∧ Value.agg #[.int .i64 h, .int .u64 l] = W2 x := by
    refine ⟨h * 18446744073709551616 + l, by unfold In128; omega, ?_⟩
    exact w2_alt (by omega) (by omega)
  have hs := byt_by b
  have ct : CT Try.prog 6 [.a (C2 x), .c (.v (tS (U (byt b)))), .c (.s 0 0 len2 cap2), .c (.s 1 0 len3 cap3)] (upd EW.emp (WQ false false la lb)) 2 2 (.c (.v (.bool true))) (upd (upd EW.emp (WQ false false la lb)) []) := by
    rcases Nat.lt_or_ge 60 (byt b).length with h60 | h60
    · exact far_texts false false x (byt b) la lb len2 len3 cap2 cap3 (by omega) (by omega) (.inl h60)
    rcases Nat.lt_or_ge 40 len2 with h40 | h40
    · exact far_texts false false x (byt b) la lb len2 len3 cap2 cap3 (by omega) (by omega) (.inr (.inl h40))
    rcases Nat.lt_or_ge 40 len3 with h41 | h41
    · exact far_texts false false x (byt b) la lb len2 len3 cap2 cap3 (by omega) (by omega) (.inr (.inr h41))
    obtain ⟨v, e, _, _, hP, hR⟩ := parse_both (byt b) hs (by omega)
    have h0 : In128 (pre la lb 0) := by rw [pre]; unfold In128; omega
    by_cases hall : ∀ i, i < min len2 len3 → In128 (pre la lb (i + 1))
    · refine texts_ok false false x v e (byt b) la lb len2 len3 cap2 cap3 _ hx h60 (by omega) (by omega) h40 h41 hA hB rfl (fun i hi => ?_) hP hR
      match i, hi with
      | 0, _ => exact h0
      | i + 1, hi => exact hall i (by omega)
    · obtain ⟨t, t1, t2, t3⟩ := first_no (p := fun i => In128 (pre la lb (i + 1))) hall
      refine texts_no false false x v e (byt b) la lb len2 len3 cap2 cap3 _ t hx h60 (by omega) (by omega) h40 h41 hA hB rfl t1 (fun i hi => ?_) t3 hP hR
      match i, hi with
      | 0, _ => exact h0
      | i + 1, hi => exact t2 i (by omega)
  rw [hX, byt_str]
  have := calls_rows (us := [W2 x, tS (U (byt b)), v2, v3]) (Ls := [nums .i64 la, nums .i64 lb]) (A := [(b2, o2), (b3, o3)]) (w := W) ct rfl (by decide)
    (fun i L hi => by
      match i, hi with
      | 0, hi => simp only [List.getElem?_cons_zero, Option.some.injEq] at hi; subst hi; exact ⟨sr2, nums_one .i64 la⟩
      | 1, hi => simp only [List.getElem?_cons_succ, List.getElem?_cons_zero, Option.some.injEq] at hi; subst hi; exact ⟨sr3, nums_one .i64 lb⟩
      | i + 2, hi => simp at hi)
    (okvs_plain (.a (.cons (.cons .nil))) rfl (okvs_plain .c rfl (okvs_slice rfl hv2 (okvs_slice rfl hv3 okvs_nil))))
    (fun v hv n hn => by
      simp only [List.mem_cons, List.not_mem_nil, or_false] at hv
      rcases hv with rfl | rfl | rfl | rfl <;> simp [V.names, C.names, List.flatMap_cons] at hn <;> simp [hn])
  exact this
end Go.Proofs.Ytbjogekhedglgaa
