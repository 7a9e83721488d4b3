import Derived.Test.YtnmkpekfkfckoaaHEwS
import Derived.Test.YtnmkpekfkfckoaaHIm3
/- Walking over named blocks: a part with three bounds of a block that came in gets a name of its own. No program in sight. -/
/- image: signs of pixels, rows as texts. -/
namespace Go.Proofs.Ytnmkpekfkfckoaa
set_option linter.unusedSimpArgs false
set_option linter.unusedVariables false
open Go.RowKit EV
open SX (Wr Tv Qu Rm Sh Is conjP eqs_iff eqs_false)
open EW (PlL PlT PlV PlVs LfV Mm Bt Opn GV YT lpOf nums)
set_option maxRecDepth 20000
theorem pvs_take : ∀ (l : List Px) (k : Nat), (pvs l).take (k * 4) = pvs (l.take k)
  | [], k => by simp [pvs]
  | p :: l, 0 => by simp [pvs]
  | p :: l, k + 1 => by
    have := pvs_take l k
    rw [show (k + 1) * 4 = k * 4 + 1 + 1 + 1 + 1 by omega]
    simpa [pvs, Px.vals] using this
theorem pvs_drop : ∀ (l : List Px) (k : Nat), (pvs l).drop (k * 4) = pvs (l.drop k)
  | [], k => by simp [pvs]
  | p :: l, 0 => by simp [pvs]
  | p :: l, k + 1 => by
    have := pvs_drop l k
    rw [show (k + 1) * 4 = k * 4 + 1 + 1 + 1 + 1 by omega]
    simpa [pvs, Px.vals] using this
theorem pvs_part {l : List Px} {a k : Nat} (h : a + k ≤ l.length) : EW.Sub (pvs l) (pvs ((l.drop a).take k)) (a * 4) := by
  rw [← pvs_take, ← pvs_drop]
  exact EW.Sub.of (by rw [pvs_length]; omega)
end Go.Proofs.Ytnmkpekfkfckoaa
/- image: sign, slices.Chunk of pixels, Rows. -/
/- image: Rows. -/
/- image: Rows; the document's Rows, Texts. -/
namespace Go.Proofs.Ytnmkpekfkfckoaa
set_option linter.unusedSimpArgs false
set_option linter.unusedVariables false
open Go.RowKit EV
open SX (Wr Tv Qu Rm Sh Is conjP eqs_iff eqs_false)
open EW (PlL PlT PlV PlVs LfV Mm Bt Opn GV YT lpOf nums)
set_option maxRecDepth 20000
theorem least_not {l : List Px} (h : ¬ ∀ i, i < l.length → mayAt l i) : ∃ t, t < l.length ∧ (∀ i, i < t → mayAt l i) ∧ ¬ mayAt l t := by
  have key : ∀ n, n ≤ l.length → (∀ i, i < n → mayAt l i) ∨ ∃ t, t < l.length ∧ (∀ i, i < t → mayAt l i) ∧ ¬ mayAt l t := by
    intro n
    induction n with
    | zero => intro _; exact .inl fun i hi => by omega
    | succ n ih =>
      intro hn
      rcases ih (by omega) with h1 | h1
      · by_cases hm : mayAt l n
        · left; intro i hi
          rcases Nat.lt_or_ge i n with h2 | h2
          · exact h1 i h2
          · obtain rfl : i = n := by omega
            exact hm
        · exact .inr ⟨n, by omega, h1, hm⟩
      · exact .inr h1
  rcases key l.length (Nat.le_refl _) with h1 | h1
  · exact absurd h1 h
  · exact h1
end Go.Proofs.Ytnmkpekfkfckoaa
/- image: the document's Rows, Texts. -/
/- ImageTells: the walk. -/
/- Walking over named blocks: a block given up to reading; a slice within a record that is loaded gets a name of its own. No program in sight. -/
namespace Go.Proofs.Ytnmkpekfkfckoaa.EW
set_option linter.unusedSectionVars false
set_option linter.unusedSimpArgs false
set_option linter.unusedVariables false
open Go.RowKit EV
open SX (Is)
section
variable {c : Ctx} {F : Fence} {nn : Nat} {id : Nat} {ops : Array Oper} {draw : Bool} {Q : Exit → Act → World → Prop} {σ0 σ s s' : Sf} {i : Nat} {rest : List Oper} {tr : List Tr} {sup : List Nat} {e e' : Env} {a : Act} {w : World}
theorem Real.freeze (hR : Real c s e a w) {n : Nat} {L : List Value} (hb : s (.b n) = some (.b (.w true L))) : Real c (upd s [(.b n, .b (.w false L))]) e a w := by
  have hbk : ∀ k, upd s [(.b n, .b (.w false L))] (.b k) = if n = k then some (.b (.w false L)) else s (.b k) := fun k => by rw [upd_cons, upd_nil]; simp
  have hl : ∀ k, upd s [(.b n, .b (.w false L))] (.l k) = s (.l k) := fun k => by rw [upd_cons_ne _ _ _ (by simp), upd_nil]
  have ht : ∀ k, upd s [(.b n, .b (.w false L))] (.t k) = s (.t k) := fun k => by rw [upd_cons_ne _ _ _ (by simp), upd_nil]
  have hmo : ∀ m, Mo s e (upd s [(.b n, .b (.w false L))]) e m := fun m => ⟨fun hx => by unfold live at *; rwa [hl] at hx, .rfl⟩
  have old : ∀ k b, upd s [(.b n, .b (.w false L))] (.b k) = some (.b b) → ∃ b', s (.b k) = some (.b b') ∧ (b.own = true → b'.own = true) ∧ (∀ w, BOk s e w k b' → BOk s e w k b) := fun k b h => by
    rw [hbk] at h
    by_cases hk : n = k
    · subst hk; rw [if_pos rfl] at h; cases h
      refine ⟨_, hb, fun h => (by cases h), fun w h => ?_⟩
      obtain ⟨h1, h2⟩ : MOk s e w n true (L.map C.v) := h
      refine (show MOk s e w n false (L.map C.v) from ⟨h1, ?_⟩)
      rcases h2 with h2 | ⟨cs, ty, fz, g1, g2, g3, g4⟩
      · exact .inl h2
      · exact .inr ⟨cs, ty, fz, g1, (fun h => by cases h), g3, g4⟩
    · rw [if_neg hk] at h; exact ⟨b, h, id, fun _ h => h⟩
  have h := hR.W
  refine ⟨⟨fun k b h1 h2 => ?_, fun k k' b b' h1 h2 h3 h4 hne ho => ?_, fun k b h1 h2 ho => ?_, ⟨fun q x hq m hm => ?_, fun k hx => ?_⟩, h.given, h.os, h.tape, h.output, h.size, h.old⟩, hR.defers, fun k hk => ?_, hR.slots, fun i v hx => ?_⟩
  · rw [hl] at h1
    obtain ⟨b', g1, g2, g3⟩ := old k b h2
    exact (g3 w (h.blk k b' h1 g1)).mono (fun m _ => hmo m) .rfl (fun _ => rfl)
  · rw [hl] at h1 h3
    obtain ⟨b1, g1, g2, _⟩ := old k b h2
    obtain ⟨b2, g3, _⟩ := old k' b' h4
    exact h.sep k k' b1 b2 h1 g1 h3 g3 hne (g2 ho)
  · rw [hl] at h1
    obtain ⟨b1, g1, g2, _⟩ := old k b h2
    exact h.own k b1 h1 g1 (g2 ho)
  · rw [hl]
    cases q with
    | t i => rw [ht] at hq; exact h.cl.1 _ x hq m hm
    | l i => rw [hl] at hq; exact h.cl.1 _ x hq m hm
    | b i =>
      rw [hbk] at hq
      split at hq
      · cases hq
        exact h.cl.1 (.b n) _ hb m hm
      · exact h.cl.1 _ x hq m hm
  · rw [hl]
    rw [hbk] at hx
    split at hx
    · next hk => subst hk; exact h.cl.2 n (by rw [hb]; simp)
    · exact h.cl.2 k hx
  · rw [hl, hbk]
    obtain ⟨g1, g2⟩ := hR.fml k hk
    refine ⟨g1, ?_⟩
    split
    · next he => subst he; rw [hb] at g2; cases g2
    · exact g2
  · rw [ht] at hx
    obtain ⟨u, g1, g2⟩ := hR.tmp i v hx
    exact ⟨u, g1, OkV.mono (fun m _ => hmo m) g2⟩
/-- A block of our own is written no more: from here on it is like one that came in. -/
theorem eFreeze {code : Code} (n : Nat) {L : List Value} (hr : CX c F nn code Q (upd σ [(.b n, .b (.w false L))]) sup) (hb : σ (.b n) = some (.b (.w true L)) := by rfl) : CX c F nn code Q σ sup := ⟨⟨fun e a w hR => hr.go.go e a w (Real.freeze hR hb)⟩⟩
end
end Go.Proofs.Ytnmkpekfkfckoaa.EW
/- image: Twin, twin, kept; slices.Clone of any pixels. -/
namespace Go.Proofs.Ytnmkpekfkfckoaa
set_option linter.unusedSimpArgs false
set_option linter.unusedVariables false
open Go.RowKit EV
open SX (Wr Tv Qu Rm Sh Is conjP eqs_iff eqs_false)
open EW (PlL PlT PlV PlVs LfV Mm Bt Opn GV YT lpOf nums)
set_option maxRecDepth 20000
theorem dtwin (o : Bool) (l : List Px) (hl : l.length ≤ 10000) : CT Try.prog 12 [.c (.g 0 0 l.length l.length 4)] (upd EW.emp (WP o l)) 1 2 (.c (.g 1 0 l.length l.length 4)) (upd (upd EW.emp (WP o l)) [(.l 1, .l true), (.b 1, .b (.w true (pvs l)))]) := by
  refine EW.ctEnter EW.sup1 Try.func12 rfl Try.ntmps12 rfl EW.nlP ?_; intro w0 tch ini R hR
  all_goals try (refine EW.nm ?_)
  all_goals try (refine EW.eReg (id := 0) ?_; refine EW.eAssign ?_; refine EW.eEnd ?_; (try refine EW.nm ?_))
  all_goals try (refine EW.eReg (id := 1) ?_; refine EW.eAssign ?_; refine EW.eEnd ?_; (try refine EW.nm ?_))
  all_goals try (refine EW.eReg (id := 2) ?_; refine EW.eMove ?_; refine EW.eMove ?_; (first | refine EW.eAppGW (z := 4) ?_ | refine EW.eAppG (z := 4) ?_ | refine EW.eAppZW (z := 4) ?_ | refine EW.eAppZ (z := 4) ?_ | refine EW.eAppSW (z := 4) ?_ | refine EW.eAppS (z := 4) ?_ | refine EW.eAppNW (z := 4) ?_ | refine EW.eAppN (z := 4) ?_); refine EW.eAssign ?_; refine EW.eEnd ?_; (try refine EW.nm ?_))
  all_goals try (with_reducible refine EW.parkK ?_)
  all_goals try (refine EW.Park.mk ?_)
  all_goals (refine EW.eLeaveN [10] hR EW.orP (by rfl) (by rfl) ?_ ?_ rfl rfl EW.nlP rfl rfl; rotate_left 1; (· ((repeat (first | exact EW.atE.nil | refine EW.atE.lt rfl ?_ | refine EW.atE.lf ?_ | refine EW.atE.b rfl EW.SameB.refl ?_ | (refine EW.atE.b rfl ?_ ?_; rotate_left 1))))))
  all_goals rfl
theorem pvs_add (l : List Px) (z o t c : Int) : pvs l ++ [.int .u32 z, .int .i64 o, .int .i64 t, .int .u32 c] = pvs (l ++ [⟨z, o, t, c⟩]) := by simp [pvs, Px.vals]
theorem pvs_head (l t : List Px) : EW.Sub (pvs (l ++ t)) (pvs l) 0 := by
  have := pvs_part (l := l ++ t) (a := 0) (k := l.length) (by simp)
  simpa using this
end Go.Proofs.Ytnmkpekfkfckoaa
/- image: Cut; the document's. -/
/- image: Paste; the document's. -/
namespace Go.Proofs.Ytnmkpekfkfckoaa
set_option linter.unusedSimpArgs false
set_option linter.unusedVariables false
open Go.RowKit EV
open SX (Wr Tv Qu Rm Sh Is conjP eqs_iff eqs_false)
open EW (PlL PlT PlV PlVs LfV Mm Bt Opn GV YT lpOf nums)
set_option maxRecDepth 20000
theorem pvs_put0 : ∀ (m l : List Px), put0 (pvs m) (pvs l) = pvs (put0 m l)
  | [], l => by cases l <;> rfl
  | x :: xs, [] => rfl
  | x :: xs, y :: l => by
    have := pvs_put0 xs l
    simp only [pvs, List.flatMap_cons, put0] at this ⊢
    simp only [Px.vals, List.cons_append, List.nil_append, put0]
    exact congrArg _ (congrArg _ (congrArg _ (congrArg _ this)))
theorem pvs_putL : ∀ (a : Nat) (m l : List Px), putL (a * 4) (pvs m) (pvs l) = pvs (putL a m l)
  | 0, m, l => by rw [Nat.zero_mul]; exact pvs_put0 m l
  | a + 1, m, [] => by rw [show (a + 1) * 4 = a * 4 + 1 + 1 + 1 + 1 by omega]; rfl
  | a + 1, m, y :: l => by
    have := pvs_putL a m l
    rw [show (a + 1) * 4 = a * 4 + 1 + 1 + 1 + 1 by omega]
    simp only [pvs, List.flatMap_cons, putL] at this ⊢
    simp only [Px.vals, List.cons_append, List.nil_append, putL]
    exact congrArg _ (congrArg _ (congrArg _ (congrArg _ this)))
/-- A span that may be. -/
def spOk (l : List Px) : Prop := l.length ≤ 4096 ∧ ∀ i, i < l.length → mayAt l i
theorem whole_n (o : Bool) (l : List Px) (hl : l.length ≤ 10000) (hn : ¬ spOk l) : CT Try.prog 52 [.c (.g 0 0 l.length l.length 4)] (upd EW.emp (WP o l)) 1 1 (.c (.v (.bool false))) (upd (upd EW.emp (WP o l)) []) := by
  rcases Nat.lt_or_ge 4096 l.length with h | h
  · exact whole_far o l h hl
  · obtain ⟨t, h1, h2, h3⟩ := least_not (l := l) fun hs => hn ⟨h, hs⟩
    exact whole_no o l t h h1 h2 h3
theorem span_n (o : Bool) (l : List Px) (hl : l.length ≤ 10000) (hn : ¬ spOk l) : CT Try.prog 37 [.c (.g 0 0 l.length l.length 4)] (upd EW.emp (WP o l)) 1 1 (.c (.v (.bool false))) (upd (upd EW.emp (WP o l)) []) := by
  by_cases hs : ∀ i, i < l.length → mayAt l i
  · exact span_all o l hl false (decide_eq_false fun h => hn ⟨by omega, hs⟩) hs
  · obtain ⟨t, h1, h2, h3⟩ := least_not (l := l) hs
    exact span_no o l t hl h1 h2 h3
theorem span_y (o : Bool) (l : List Px) (hs : spOk l) : CT Try.prog 37 [.c (.g 0 0 l.length l.length 4)] (upd EW.emp (WP o l)) 1 1 (.c (.v (.bool true))) (upd (upd EW.emp (WP o l)) []) :=
  span_all o l (by have := hs.1; omega) true (decide_eq_true (by have := hs.1; omega)) hs.2
theorem tkn {R : List Px} {i : Nat} {p : Px} (h : i < R.length) (e : R.getD i Px.zero = p) : pvs (R.take i) ++ [.int .u32 p.z, .int .i64 p.o, .int .i64 p.t, .int .u32 p.c] = pvs (R.take (i + 1)) := by
  rw [pvs_add, take_next h, e]
end Go.Proofs.Ytnmkpekfkfckoaa
/- The order of pixels: plain laws. -/
namespace Go.Proofs.Ytnmkpekfkfckoaa
theorem Px.rcmp_eq (a b : Px) : a.cmp b = a.rcmp b := by
  obtain ⟨z, o, t, c⟩ := a
  obtain ⟨z', o', t', c'⟩ := b
  simp only [Px.cmp, Px.rcmp, Px.ahead, or4, cmpI]
  repeat' split
  all_goals first | rfl | omega
theorem Px.cmp_lt (a b : Px) : a.cmp b < 0 ↔ a.ahead b := by
  rw [Px.rcmp_eq, Px.rcmp]
  by_cases h : a.ahead b
  · simp [h]
  · simp only [h, if_false, iff_false]; split <;> omega
theorem Px.near_eq (a b : Px) : a.near b = if b.ahead a then b else a := by
  unfold Px.near
  by_cases h : b.ahead a
  · rw [if_pos ((Px.cmp_lt _ _).2 h), if_pos h]
  · rw [if_neg (fun h' => h ((Px.cmp_lt _ _).1 h')), if_neg h]
end Go.Proofs.Ytnmkpekfkfckoaa
