/- ViewThrough: what comes in. -/
import Derived.Test.YthclhmdgfekaeaaHVt3
namespace Go.Proofs.Ythclhmdgfekaeaa
set_option linter.unusedSimpArgs false
set_option linter.unusedVariables false
open Go.RowKit EV
open EW (PlL PlT PlV PlVs nums)
set_option maxRecDepth 20000
theorem t3_of_rows : ∀ {rows : List (List Value)}, (∀ s ∈ rows, Fit [.i .i64, .i .i64, .i .i64] s) → ∃ l : List T3, l.length = rows.length ∧ rows.flatten = tvs l ∧ ∀ t ∈ l, t.ok
  | [], _ => ⟨[], rfl, rfl, fun x hx => by cases hx⟩
  | r :: rows, h => by
    obtain ⟨l, h1, h2, h3⟩ := t3_of_rows (rows := rows) (fun s hs => h s (by simp [hs]))
    obtain ⟨a, _, rfl, a0, a1, b, _, rfl, b0, b1, c, _, rfl, c0, c1, rfl⟩ := h r (by simp)
    refine ⟨⟨a, b, c⟩ :: l, by simp [h1], by rw [List.flatten_cons, h2]; rfl, fun x hx => ?_⟩
    rcases List.mem_cons.1 hx with rfl | hx
    · exact ⟨rg_i64 ⟨a0, a1⟩, rg_i64 ⟨b0, b1⟩, rg_i64 ⟨c0, c1⟩⟩
    · exact h3 x hx
theorem tvs_one (l : List T3) : ∀ x ∈ tvs l, x.oneCell' = true := by
  intro x hx
  simp only [tvs, List.mem_flatMap] at hx
  obtain ⟨p, _, hx⟩ := hx
  simp only [List.mem_cons, List.not_mem_nil, or_false] at hx
  rcases hx with rfl | rfl | rfl <;> rfl
theorem first_no {p : Nat → Prop} [DecidablePred p] : ∀ {n : Nat}, ¬ (∀ t, t < n → p t) → ∃ t, t < n ∧ (∀ i, i < t → p i) ∧ ¬ p t
  | 0, h => absurd (fun t ht => by omega) h
  | n + 1, h => by
    by_cases h' : ∀ t, t < n → p t
    · refine ⟨n, by omega, h', fun hn => h fun t ht => ?_⟩
      rcases Nat.lt_or_ge t n with h1 | h1
      · exact h' t h1
      · obtain rfl : t = n := by omega
        exact hn
    · obtain ⟨t, h1, h2, h3⟩ := first_no h'
      exact ⟨t, by omega, h2, h3⟩
theorem vthr_any (m : List Int) (l : List T3) (hm : Ok64 m) (lm : m.length = 16) (hok : ∀ t ∈ l, t.ok) (hmx : l.length ≤ maxLen) : CT Try.prog 8 [.a ((nums .i64 m).map C.v), .c (.g 0 0 l.length l.length 3)] (upd EW.emp (WT3 false l)) 1 1 (.c (.v (.bool true))) (upd (upd EW.emp (WT3 false l)) []) := by
  rcases Nat.lt_or_ge 100 l.length with h | h
  · exact vthr_far false m l lm h hmx
  have hat : ∀ i, i < l.length → (l.getD i T3.zero).ok := fun i hi => by
    rw [List.getD_eq_getElem?_getD, List.getElem?_eq_getElem hi]; exact hok _ (List.getElem_mem hi)
  have hA : ∀ i, i < l.length → ∀ e, thrE m (l.getD i T3.zero) = e → Oft (nums .i64 m) (l.getD i T3.zero) (thrV m (l.getD i T3.zero)) e := fun i hi e he => he ▸ thr1 m _ hm lm (hat i hi)
  have hR : ∀ i, i < l.length → ∀ e, thrE m (l.getD i T3.zero) = e → RefA m (l.getD i T3.zero) (thrV m (l.getD i T3.zero)) e := fun i hi e he w => he ▸ rtapply m _ w hm lm (hat i hi)
  by_cases hall : ∀ i, i < l.length → thrE m (l.getD i T3.zero) = 0
  · exact vthr_ok false m l lm h (through_ok true m l lm (by omega) fun i hi => hA i hi 0 (hall i hi)) (rthrough_ok false m l lm (by omega) fun i hi => hR i hi 0 (hall i hi))
  · obtain ⟨t, t1, t2, t3⟩ := first_no (p := fun i => thrE m (l.getD i T3.zero) = 0) hall
    exact vthr_no false m l _ lm h (through_no true m l t _ _ t3 lm (by omega) t1 (fun i hi => hA i (by omega) 0 (t2 i hi)) (hA t t1 _ rfl)) (rthrough_no false m l t _ _ t3 lm (by omega) t1 (fun i hi => hR i (by omega) 0 (t2 i hi)) (hR t t1 _ rfl))
theorem inG_len {v : Value} {b off len room z : Nat} (h : InG v b off len room z) : len ≤ maxLen := by
  rcases h with ⟨cap, _, e1, e2, _⟩ | ⟨e1, _⟩
  · exact Nat.le_trans e1 e2
  · rw [e1]; exact Nat.zero_le _
theorem thr_row (W : World) (a0 a1 a2 a3 a4 a5 a6 a7 a8 a9 aa ab ac ad ae af : Int) {b off len room : Nat} {rows : List (List Value)} {v : Value} (hl : rows.length = len) (ft : ∀ s ∈ rows, Fit [.i .i64, .i .i64, .i .i64] s) (sr : SrcG W b off room rows.flatten) (hv : InG v b off len room 3) (ha0 : -9223372036854775808 ≤ a0) (ka0 : a0 ≤ 9223372036854775807) (ha1 : -9223372036854775808 ≤ a1) (ka1 : a1 ≤ 9223372036854775807) (ha2 : -9223372036854775808 ≤ a2) (ka2 : a2 ≤ 9223372036854775807) (ha3 : -9223372036854775808 ≤ a3) (ka3 : a3 ≤ 9223372036854775807) (ha4 : -9223372036854775808 ≤ a4) (ka4 : a4 ≤ 9223372036854775807) (ha5 : -9223372036854775808 ≤ a5) (ka5 : a5 ≤ 9223372036854775807) (ha6 : -9223372036854775808 ≤ a6) (ka6 : a6 ≤ 9223372036854775807) (ha7 : -9223372036854775808 ≤ a7) (ka7 : a7 ≤ 9223372036854775807) (ha8 : -9223372036854775808 ≤ a8) (ka8 : a8 ≤ 9223372036854775807) (ha9 : -9223372036854775808 ≤ a9) (ka9 : a9 ≤ 9223372036854775807) (haa : -9223372036854775808 ≤ aa) (kaa : aa ≤ 9223372036854775807) (hab : -9223372036854775808 ≤ ab) (kab : ab ≤ 9223372036854775807) (hac : -9223372036854775808 ≤ ac) (kac : ac ≤ 9223372036854775807) (had : -9223372036854775808 ≤ ad) (kad : ad ≤ 9223372036854775807) (hae : -9223372036854775808 ≤ ae) (kae : ae ≤ 9223372036854775807) (haf : -9223372036854775808 ≤ af) (kaf : af ≤ 9223372036854775807) :
    Calls Try.prog 8 #[.agg #[.int .i64 a0, .int .i64 a1, .int .i64 a2, .int .i64 a3, .int .i64 a4, .int .i64 a5, .int .i64 a6, .int .i64 a7, .int .i64 a8, .int .i64 a9, .int .i64 aa, .int .i64 ab, .int .i64 ac, .int .i64 ad, .int .i64 ae, .int .i64 af], v] W fun e w' => e = .returned (.bool true) ∧ Below W.heap.size W w' := by
  obtain ⟨l, h1, h2, h3⟩ := t3_of_rows ft
  rw [h2] at sr
  obtain rfl : l.length = len := by omega
  have hm : Ok64 [a0, a1, a2, a3, a4, a5, a6, a7, a8, a9, aa, ab, ac, ad, ae, af] := fun i => by
    match i with
    | 0 => exact ⟨ha0, ka0⟩
    | 1 => exact ⟨ha1, ka1⟩
    | 2 => exact ⟨ha2, ka2⟩
    | 3 => exact ⟨ha3, ka3⟩
    | 4 => exact ⟨ha4, ka4⟩
    | 5 => exact ⟨ha5, ka5⟩
    | 6 => exact ⟨ha6, ka6⟩
    | 7 => exact ⟨ha7, ka7⟩
    | 8 => exact ⟨ha8, ka8⟩
    | 9 => exact ⟨ha9, ka9⟩
    | 10 => exact ⟨haa, kaa⟩
    | 11 => exact ⟨hab, kab⟩
    | 12 => exact ⟨hac, kac⟩
    | 13 => exact ⟨had, kad⟩
    | 14 => exact ⟨hae, kae⟩
    | 15 => exact ⟨haf, kaf⟩
    | i + 16 => exact ⟨by simp, by simp⟩
  have := calls_rowsG (us := [.agg #[.int .i64 a0, .int .i64 a1, .int .i64 a2, .int .i64 a3, .int .i64 a4, .int .i64 a5, .int .i64 a6, .int .i64 a7, .int .i64 a8, .int .i64 a9, .int .i64 aa, .int .i64 ab, .int .i64 ac, .int .i64 ad, .int .i64 ae, .int .i64 af], v]) (Ls := [tvs l]) (A := [(b, off, room)]) (w := W) (vthr_any [a0, a1, a2, a3, a4, a5, a6, a7, a8, a9, aa, ab, ac, ad, ae, af] l hm rfl h3 (inG_len hv)) rfl (by decide)
    (fun i L hi => by
      match i, hi with
      | 0, hi => simp only [List.getElem?_cons_zero, Option.some.injEq] at hi; subst hi; exact ⟨sr, tvs_one l⟩
      | i + 1, hi => simp at hi)
    (okvs_plain (.a (.cons (.cons (.cons (.cons (.cons (.cons (.cons (.cons (.cons (.cons (.cons (.cons (.cons (.cons (.cons (.cons .nil))))))))))))))))) rfl (okvs_sliceG rfl hv okvs_nil))
    (fun v hv n hn => by
      simp only [List.mem_cons, List.not_mem_nil, or_false] at hv
      rcases hv with rfl | rfl <;> simp [V.names, C.names, List.flatMap_cons, nums] at hn <;> simp [hn])
  exact this
end Go.Proofs.Ythclhmdgfekaeaa
