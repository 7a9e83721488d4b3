/- image: Paste; the document's. -/
import Derived.Test.YtflgamohploalaaHImG
namespace Go.Proofs.Ytflgamohploalaa
set_option linter.unusedSimpArgs false
set_option linter.unusedVariables false
open Go.RowKit EV
open SX (Wr Tv Qu Rm Sh Is conjP eqs_iff eqs_false)
open EW (PlL PlT PlV PlVs LfV Mm Bt Opn GV YT lpOf nums)
set_option maxRecDepth 20000
theorem pvs_put0 : ∀ (m l : List Px), put0 (pvs m) (pvs l) = pvs (put0 m l)
  | [], l => by cases l <;> rfl
  | x :: xs, [] => rfl
  | x :: xs, y :: l => by
    have := pvs_put0 xs l
    simp only [pvs, List.flatMap_cons, put0] at this ⊢
    simp only [Px.vals, List.cons_append, List.nil_append, put0]
    exact congrArg _ (congrArg _ (congrArg _ (congrArg _ this)))
theorem pvs_putL : ∀ (a : Nat) (m l : List Px), putL (a * 4) (pvs m) (pvs l) = pvs (putL a m l)
  | 0, m, l => by rw [Nat.zero_mul]; exact pvs_put0 m l
  | a + 1, m, [] => by rw [show (a + 1) * 4 = a * 4 + 1 + 1 + 1 + 1 by omega]; rfl
  | a + 1, m, y :: l => by
    have := pvs_putL a m l
    rw [show (a + 1) * 4 = a * 4 + 1 + 1 + 1 + 1 by omega]
    simp only [pvs, List.flatMap_cons, putL] at this ⊢
    simp only [Px.vals, List.cons_append, List.nil_append, putL]
    exact congrArg _ (congrArg _ (congrArg _ (congrArg _ this)))
theorem srcN_px {c : Ctx} {σ : Sf} {x : Operand} {q lb : Nat} {own : Bool} {m : List Px} (hx : opv σ x = some (.c (.g q 0 m.length lb 4))) (ha : σ (.l q) = some (.l true)) (hB : σ (.b q) = some (.b (.w own (pvs m)))) : SrcN c σ x m.length m.length 4 ((pvs m).map C.v) (.l q :: .b q :: opk x) := by
  have := srcN_named (c := c) (n := m.length) (z := 4) hx (.inr ⟨_, _, rfl⟩) ha hB rfl (Nat.le_refl _) (by rw [List.length_map, pvs_length]; omega)
  rwa [List.drop_zero, List.take_of_length_le (by rw [List.length_map, pvs_length]; omega)] at this
/-- A span that may be. -/
def spOk (l : List Px) : Prop := l.length ≤ 4096 ∧ ∀ i, i < l.length → mayAt l i
theorem whole_n (o : Bool) (l : List Px) (hl : l.length ≤ 10000) (hn : ¬ spOk l) : CT Try.prog 48 [.c (.g 0 0 l.length l.length 4)] (upd EW.emp (WP o l)) 1 1 (.c (.v (.bool false))) (upd (upd EW.emp (WP o l)) []) := by
  rcases Nat.lt_or_ge 4096 l.length with h | h
  · exact whole_far o l h hl
  · obtain ⟨t, h1, h2, h3⟩ := least_not (l := l) fun hs => hn ⟨h, hs⟩
    exact whole_no o l t h h1 h2 h3
theorem with_ct (o o' : Bool) (xs ys : List Px) (w h : Int) : CT Try.prog 49 [.a (imC 0 w h xs.length), .c (.g 1 0 ys.length ys.length 4)] (upd EW.emp (W2 o o' xs ys)) 2 2 (.a (imC 1 w h ys.length)) (upd (upd EW.emp (W2 o o' xs ys)) []) := by
  refine EW.ctEnter [10, 20, 30, 40, 50, 60, 70, 80, 90, 100, 110, 120, 130, 140, 150, 160, 170, 180, 190, 200, 210, 220, 230, 240, 250, 260, 270, 280, 290, 300, 310, 320, 330, 340, 350, 360, 370, 380, 390, 400, 410, 420, 430, 440, 450, 460, 470, 480, 490, 500, 510, 520, 530, 540, 550, 560, 570, 580, 590, 600] Try.func49 rfl Try.ntmps49 rfl (by (((repeat (first | exact EW.NL.emp | (refine EW.NL.upd ?_ rfl) | refine EW.NL.drp ?_ | refine EW.NL.hp ?_ | refine EW.NL.argS ?_ | refine EW.NL.mix ?_)); (first | done | fail)))) ?_; intro w0 tch ini R hR
  all_goals try (refine EW.nm ?_)
  all_goals try ((first | refine EW.eRegL (id := 0) ?_ | refine EW.eReg (id := 0) ?_); refine EW.eBox ?_; refine EW.eAlloc ?_; refine EW.eEnd ?_; (try refine EW.nm ?_))
  all_goals try ((first | refine EW.eRegL (id := 1) ?_ | refine EW.eReg (id := 1) ?_); refine EW.eFieldAddr (k := 1) ?_; refine EW.eLoad1 ?_; refine EW.eFieldAddr (k := 1) ?_; refine EW.eLoad1 ?_; refine EW.eMove ?_; refine EW.eBuild (place := fun i => [(0, 1), (1, 1), (2, 1)][i]?) ?_; (first | refine EW.eStoreW (k := 3) ?_ | refine EW.eStore (k := 3) ?_); refine EW.eEnd ?_; (try refine EW.nm ?_))
  all_goals try (with_reducible refine EW.parkK ?_)
  all_goals try (refine EW.Park.mk ?_)
  all_goals (refine EW.eLeaveN [] hR (by first | exact .inl rfl | exact .inr rfl) (by rfl) (by rfl) ?_ ?_ rfl rfl (by (((repeat (first | exact EW.NL.emp | (refine EW.NL.upd ?_ rfl) | refine EW.NL.drp ?_ | refine EW.NL.hp ?_ | refine EW.NL.argS ?_ | refine EW.NL.mix ?_)); (first | done | fail)))) rfl rfl; rotate_left 1; (· ((repeat (first | exact EW.atE.nil | refine EW.atE.lt rfl ?_ | refine EW.atE.lf ?_ | refine EW.atE.b rfl EW.SameB.refl ?_ | (refine EW.atE.b rfl ?_ ?_; rotate_left 1))))))
  all_goals rfl
theorem with_ctk (o o' : Bool) (xs ys : List Px) (w h : Int) (k : Nat) (hk : ys.length = k) : CT Try.prog 49 [.a (imC 0 w h xs.length), .c (.g 1 0 k k 4)] (upd EW.emp (W2 o o' xs ys)) 2 2 (.a (imC 1 w h k)) (upd (upd EW.emp (W2 o o' xs ys)) []) := by
  subst hk; exact with_ct o o' xs ys w h
abbrev PasteR (f : FuncId) (l m : List Px) (w h a w' h' : Int) (r : List Px) (e : Int) : Prop := CT Try.prog f [.a (imC 0 w h l.length), .c (.v (.int .i64 a)), .c (.g 1 0 m.length m.length 4)] (upd EW.emp (W2 false false l m)) 2 3 (.t [.inr (imC 2 w' h' r.length), .inl (.v (.int .i64 e))]) (upd (upd EW.emp (W2 false false l m)) [(.l 2, .l true), (.b 2, .b (.w true (pvs r)))])
theorem ipaste_y (l m : List Px) (w h : Int) (a : Nat) (hi : imOk w h l) (hs : spOk m) (h1 : a + m.length ≤ l.length) : PasteR 23 l m w h a w h (putL a m l) 0 := by
  have hC := icheck_y false l w h hi
  have hW := whole_y false m hs.1 hs.2
  have hq := hi.2.1
  have hm := sz_mul hi.1
  generalize w * h = p at *
  have hK := pclone_any false l (by omega)
  have hpl : (putL a m l).length = l.length := putL_length a m l
  have hT := with_ctk false true l (putL a m l) w h l.length hpl
  unfold PasteR
  rw [hpl]
  clear hi hs
  refine EW.ctEnter [10, 20, 30, 40, 50, 60, 70, 80, 90, 100, 110, 120, 130, 140, 150, 160, 170, 180, 190, 200, 210, 220, 230, 240, 250, 260, 270, 280, 290, 300, 310, 320, 330, 340, 350, 360, 370, 380, 390, 400, 410, 420, 430, 440, 450, 460, 470, 480, 490, 500, 510, 520, 530, 540, 550, 560, 570, 580, 590, 600] Try.func23 rfl Try.ntmps23 rfl (by (((repeat (first | exact EW.NL.emp | (refine EW.NL.upd ?_ rfl) | refine EW.NL.drp ?_ | refine EW.NL.hp ?_ | refine EW.NL.argS ?_ | refine EW.NL.mix ?_)); (first | done | fail)))) ?_; intro w0 tch ini R hR
  all_goals try (refine EW.nm ?_)
  all_goals try ((first | refine EW.eRegL (id := 0) ?_ | refine EW.eReg (id := 0) ?_); refine EW.eBox ?_; refine EW.eAlloc ?_; refine EW.eAssign ?_; refine EW.eEnd ?_; (try refine EW.nm ?_))
  all_goals try ((first | refine EW.eRegL (id := 1) ?_ | refine EW.eReg (id := 1) ?_); refine EW.eLoadA (k := 3) ?_; refine EW.eCallN [0] Try.call34 (hC) ?_; refine EW.eNeq ?_; refine EW.eMove ?_)
  all_goals try (refine EW.eGuard (j := 3) (o := ⟨some 13, _, _, _, _, _⟩) ?_ ?_ <;> (intro hb hb'; (try dsimp only at hb'); (try (exfalso; first | omega | with_reducible exact absurd rfl hb'))))
  all_goals try ((first | refine EW.eSkipF (j := 3) ?_ | refine EW.eSkipU (j := 3) ?_ | refine EW.eMove ?_); (first | refine EW.eSkipF (j := 3) ?_ | refine EW.eSkipU (j := 3) ?_ | refine EW.eCallN [1] Try.call48 (hW) ?_); (first | refine EW.eSkipF (j := 3) ?_ | refine EW.eSkipU (j := 3) ?_ | refine EW.eNot ?_); (first | refine EW.ePickT ?_ | refine EW.ePickF ?_); refine EW.eMove ?_)
  all_goals try (refine EW.eGuard (j := 8) (o := ⟨some 18, _, _, _, _, _⟩) ?_ ?_ <;> (intro hb hb'; (try dsimp only at hb'); (try (exfalso; first | omega | with_reducible exact absurd rfl hb'))))
  all_goals try ((first | refine EW.eSkipF (j := 8) ?_ | refine EW.eSkipU (j := 8) ?_ | refine EW.eMove ?_); (first | refine EW.eSkipF (j := 8) ?_ | refine EW.eSkipU (j := 8) ?_ | refine EW.eLss ?_); (first | refine EW.ePickT ?_ | refine EW.ePickF ?_); refine EW.eMove ?_)
  all_goals try (refine EW.eGuard (j := 12) (o := ⟨some 22, _, _, _, _, _⟩) ?_ ?_ <;> (intro hb hb'; (try dsimp only at hb'); (try (exfalso; first | omega | with_reducible exact absurd rfl hb'))))
  all_goals try ((first | refine EW.eSkipF (j := 12) ?_ | refine EW.eSkipU (j := 12) ?_ | refine EW.eMove ?_); (first | refine EW.eSkipF (j := 12) ?_ | refine EW.eSkipU (j := 12) ?_ | refine EW.eFieldAddr (k := 1) ?_); (first | refine EW.eSkipF (j := 12) ?_ | refine EW.eSkipU (j := 12) ?_ | refine EW.eLoad1 ?_); (first | refine EW.eSkipF (j := 12) ?_ | refine EW.eSkipU (j := 12) ?_ | refine EW.eLenS ?_ | refine EW.eLenG ?_ | refine EW.eLenN ?_); (first | refine EW.eSkipF (j := 12) ?_ | refine EW.eSkipU (j := 12) ?_ | refine EW.eMove ?_); (first | refine EW.eSkipF (j := 12) ?_ | refine EW.eSkipU (j := 12) ?_ | refine EW.eLenS ?_ | refine EW.eLenG ?_ | refine EW.eLenN ?_); (first | refine EW.eSkipF (j := 12) ?_ | refine EW.eSkipU (j := 12) ?_ | refine EW.eSub ?_); (first | refine EW.eSkipF (j := 12) ?_ | refine EW.eSkipU (j := 12) ?_ | refine EW.eGtr ?_); (first | refine EW.ePickT ?_ | refine EW.ePickF ?_); refine EW.eEnd ?_; (try refine EW.nm ?_))
  all_goals try (first | refine EW.eYes (x := Operand.tmp 30) ?_ | refine EW.eNo (x := Operand.tmp 30) ?_ | (refine EW.eCond (x := Operand.tmp 30) ?_ ?_ <;> (intro hb hb'; (try dsimp only at hb'); (try (exfalso; first | omega | with_reducible exact absurd rfl hb')))))
  all_goals try (refine EW.nm ?_)
  all_goals try ((first | refine EW.eRegL (id := 2) ?_ | refine EW.eReg (id := 2) ?_); refine EW.eBuild (place := fun i => [(0, 1), (1, 1), (2, 1)][i]?) ?_; (first | refine EW.eStoreW (k := 3) ?_ | refine EW.eStore (k := 3) ?_); refine EW.eAssign ?_; refine EW.eEnd ?_; (try refine EW.nm ?_))
  all_goals try (with_reducible refine EW.parkK ?_)
  all_goals try ((first | refine EW.eRegL (id := 3) ?_ | refine EW.eReg (id := 3) ?_); refine EW.eFieldAddr (k := 1) ?_; refine EW.eLoad1 ?_; refine EW.eCallN [0] Try.call47 (hK) ?_; refine EW.eAssign ?_; refine EW.eEnd ?_; (try refine EW.nm ?_))
  all_goals try ((first | refine EW.eRegL (id := 4) ?_ | refine EW.eReg (id := 4) ?_); refine EW.eMove ?_; refine EW.eMove ?_; (first | refine EW.eSliceS (z := 4) ?_ | refine EW.eSliceG (z := 4) ?_ | refine EW.eSliceN (z := 4) ?_); refine EW.eMove ?_; refine EW.eCopyG (z := 4) (n := m.length) (vs := (pvs m).map C.v) (l' := (pvs (putL a m l)).map C.v) ?_ (hs := srcN_px (by rfl) (by rfl) (by rfl)) (hn := Nat.min_eq_left (by omega)) (hvl := by rw [List.length_map, pvs_length]) (e2 := ⟨by rw [← putL_map, pvs_putL]⟩); refine EW.eEnd ?_; (try refine EW.nm ?_))
  all_goals (refine EW.eToW 50 true (pvs (putL a m l)) ?_)
  all_goals try ((first | refine EW.eRegL (id := 5) ?_ | refine EW.eReg (id := 5) ?_); refine EW.eLoadA (k := 3) ?_; refine EW.eMove ?_; refine EW.eCallN [0, 50] Try.call49 (hT) ?_; (first | refine EW.eStoreW (k := 3) ?_ | refine EW.eStore (k := 3) ?_); refine EW.eAssign ?_; refine EW.eEnd ?_; (try refine EW.nm ?_))
  all_goals try (with_reducible refine EW.parkK ?_)
  all_goals try (refine EW.Park.mk ?_)
  all_goals (refine EW.eLeaveN [50] hR (by first | exact .inl rfl | exact .inr rfl) (by rfl) (by rfl) ?_ ?_ rfl rfl (by (((repeat (first | exact EW.NL.emp | (refine EW.NL.upd ?_ rfl) | refine EW.NL.drp ?_ | refine EW.NL.hp ?_ | refine EW.NL.argS ?_ | refine EW.NL.mix ?_)); (first | done | fail)))) rfl rfl; rotate_left 1; (· ((repeat (first | exact EW.atE.nil | refine EW.atE.lt rfl ?_ | refine EW.atE.lf ?_ | refine EW.atE.b rfl EW.SameB.refl ?_ | (refine EW.atE.b rfl ?_ ?_; rotate_left 1))))))
  all_goals rfl
theorem putL_at {l m : List Px} {a i : Nat} (h : a + m.length ≤ l.length) (hi : i < l.length) : (a ≤ i ∧ i - a < m.length → (putL a m l).getD i Px.zero = m.getD (i - a) Px.zero) ∧ (¬ (a ≤ i ∧ i - a < m.length) → (putL a m l).getD i Px.zero = l.getD i Px.zero) := by
  rw [List.getD_eq_getElem?_getD, List.getD_eq_getElem?_getD, List.getD_eq_getElem?_getD, putL_get a m l i h]
  refine ⟨fun h1 => by rw [if_pos (by omega)], fun h1 => by rw [if_neg (by omega)]⟩
end Go.Proofs.Ytflgamohploalaa
