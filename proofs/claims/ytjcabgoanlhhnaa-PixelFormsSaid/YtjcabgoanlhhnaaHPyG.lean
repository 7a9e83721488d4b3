/- PixelForms: whatever comes in. -/
import Derived.Test.YtjcabgoanlhhnaaHPyF
import Derived.Test.YtjcabgoanlhhnaaHPkH
namespace Go.Proofs.Ytjcabgoanlhhnaa
set_option linter.unusedSimpArgs false
set_option linter.unusedVariables false
open Go.RowKit Go.ChangeShapes Go.WideShapes EV
open SX (Wr Tv Qu Rm Sh Is conjP eqs_iff eqs_false)
open EW (PlL PlT PlV PlVs LfV Mm Bt Opn GV YT lpOf nums)
set_option maxRecDepth 20000
theorem forms_far (l : List Px) (bs : List Int) (h : 100 < l.length ∨ 2000 < bs.length) : CT Try.prog 5 [.c (.g 0 0 l.length l.length 4), .c (.g 1 0 bs.length bs.length 1)] (upd EW.emp (WPB l bs)) 2 2 (.c (.v (.bool true))) (upd (upd EW.emp (WPB l bs)) []) := by
  refine EW.ctEnter [10, 20, 30, 40, 50, 60, 70, 80, 90, 100, 110, 120, 130, 140, 150, 160, 170, 180, 190, 200, 210, 220, 230, 240, 250, 260, 270, 280, 290, 300, 310, 320, 330, 340, 350, 360, 370, 380, 390, 400, 410, 420, 430, 440, 450, 460, 470, 480, 490, 500, 510, 520, 530, 540, 550, 560, 570, 580, 590, 600] Try.func5 rfl Try.ntmps5 rfl (by (((repeat (first | exact EW.NL.emp | (refine EW.NL.upd ?_ rfl) | refine EW.NL.drp ?_ | refine EW.NL.hp ?_ | refine EW.NL.argS ?_ | refine EW.NL.mix ?_)); (first | done | fail)))) ?_; intro w0 tch ini R hR
  all_goals try (refine EW.nm ?_)
  all_goals try ((first | refine EW.eRegL (id := 0) ?_ | refine EW.eReg (id := 0) ?_); refine EW.eAssign ?_; refine EW.eEnd ?_; (try refine EW.nm ?_))
  all_goals try ((first | refine EW.eRegL (id := 1) ?_ | refine EW.eReg (id := 1) ?_); refine EW.eMove ?_; (first | refine EW.eLenS ?_ | refine EW.eLenG ?_ | refine EW.eLenN ?_); refine EW.eGtr ?_; refine EW.eMove ?_)
  all_goals try (refine EW.eGuard (j := 3) (o := ⟨some 20, _, _, _, _, _⟩) ?_ ?_ <;> (intro hb hb'; (try dsimp only at hb'); (try (exfalso; first | omega | with_reducible exact absurd rfl hb'))))
  all_goals try ((first | refine EW.eSkipF (j := 3) ?_ | refine EW.eSkipU (j := 3) ?_ | refine EW.eMove ?_); (first | refine EW.eSkipF (j := 3) ?_ | refine EW.eSkipU (j := 3) ?_ | refine EW.eLenS ?_ | refine EW.eLenG ?_ | refine EW.eLenN ?_); (first | refine EW.eSkipF (j := 3) ?_ | refine EW.eSkipU (j := 3) ?_ | refine EW.eGtr ?_); (first | refine EW.ePickT ?_ | refine EW.ePickF ?_); refine EW.eEnd ?_; (try refine EW.nm ?_))
  all_goals (rcases Nat.lt_or_ge 100 l.length with h1 | h1)
  all_goals try (first | refine EW.eYes (x := Operand.tmp 23) ?_ | refine EW.eNo (x := Operand.tmp 23) ?_ | (refine EW.eCond (x := Operand.tmp 23) ?_ ?_ <;> (intro hb hb'; (try dsimp only at hb'); (try (exfalso; first | omega | with_reducible exact absurd rfl hb')))))
  all_goals try (refine EW.nm ?_)
  all_goals try ((first | refine EW.eRegL (id := 2) ?_ | refine EW.eReg (id := 2) ?_); refine EW.eAssign ?_; refine EW.eEnd ?_; (try refine EW.nm ?_))
  all_goals try (with_reducible refine EW.parkK ?_)
  all_goals try ((first | refine EW.eRegL (id := 3) ?_ | refine EW.eReg (id := 3) ?_); fail "no contract of mullion/pack.NewWriter"; refine EW.eAssign ?_; refine EW.eEnd ?_; (try refine EW.nm ?_))
  all_goals try ((first | refine EW.eRegL (id := 4) ?_ | refine EW.eReg (id := 4) ?_); refine EW.eBuild (place := fun i => [(0, 1), (1, 1)][i]?) ?_; refine EW.eBox ?_; refine EW.eAssign ?_; refine EW.eEnd ?_; (try refine EW.nm ?_))
  all_goals try ((first | refine EW.eRegL (id := 5) ?_ | refine EW.eReg (id := 5) ?_); refine EW.eMove ?_; (first | refine EW.eLenS ?_ | refine EW.eLenG ?_ | refine EW.eLenN ?_); refine EW.eMove ?_; refine EW.eEnd ?_; (try refine EW.nm ?_))
  all_goals try (refine EW.eUnroll 6 ?_)
  all_goals try (refine EW.nm ?_)
  iterate 6 (
    all_goals try ((first | refine EW.eRegL (id := 6) ?_ | refine EW.eReg (id := 6) ?_); refine EW.eLss ?_; refine EW.eEnd ?_; (try refine EW.nm ?_))
    all_goals try (first | refine EW.eYes (x := Operand.tmp 30) ?_ | refine EW.eNo (x := Operand.tmp 30) ?_ | (refine EW.eCond (x := Operand.tmp 30) ?_ ?_ <;> (intro hb hb'; (try dsimp only at hb'); (try (exfalso; first | omega | with_reducible exact absurd rfl hb')))))
    all_goals try (refine EW.nm ?_)
    all_goals try ((first | refine EW.eRegL (id := 7) ?_ | refine EW.eReg (id := 7) ?_); refine EW.eMove ?_; refine EW.eAssign ?_; refine EW.eEnd ?_; (try refine EW.nm ?_))
    all_goals try ((first | refine EW.eRegL (id := 8) ?_ | refine EW.eReg (id := 8) ?_); refine EW.eMove ?_; refine EW.eMove ?_; refine EW.eMove ?_; (first | refine EW.eIndexAddrS (z := 4) ?_ | refine EW.eIndexAddrG (z := 4) ?_); refine EW.eLoadA (k := 4) ?_; fail "no contract of mullion/pixel.Write"; refine EW.eAssign ?_; refine EW.eEnd ?_; (try refine EW.nm ?_))
    all_goals try ((first | refine EW.eRegL (id := 9) ?_ | refine EW.eReg (id := 9) ?_); refine EW.eMove ?_; refine EW.eMove ?_; refine EW.eMove ?_; refine EW.eMove ?_; (first | refine EW.eIndexAddrS (z := 4) ?_ | refine EW.eIndexAddrG (z := 4) ?_); refine EW.eLoadA (k := 4) ?_; fail "no contract of mullion/mullionref13.Write"; refine EW.eNeq ?_; refine EW.eEnd ?_; (try refine EW.nm ?_))
    all_goals try (first | refine EW.eYes (x := Operand.tmp 45) ?_ | refine EW.eNo (x := Operand.tmp 45) ?_ | (refine EW.eCond (x := Operand.tmp 45) ?_ ?_ <;> (intro hb hb'; (try dsimp only at hb'); (try (exfalso; first | omega | with_reducible exact absurd rfl hb')))))
    all_goals try (refine EW.nm ?_)
    all_goals try ((first | refine EW.eRegL (id := 10) ?_ | refine EW.eReg (id := 10) ?_); refine EW.eAssign ?_; refine EW.eEnd ?_; (try refine EW.nm ?_))
    all_goals try (with_reducible refine EW.parkK ?_)
    all_goals try ((first | refine EW.eRegL (id := 11) ?_ | refine EW.eReg (id := 11) ?_); refine EW.eAdd ?_; refine EW.eMove ?_; refine EW.eEnd ?_; (try refine EW.nm ?_)))
  all_goals try ((first | refine EW.eRegL (id := 12) ?_ | refine EW.eReg (id := 12) ?_); refine EW.eMove ?_; fail "no contract of (*mullion/pack.Writer).Bytes"; refine EW.eMove ?_; (first | refine EW.eExtC ?_ | refine EW.eExtA ?_); (first | refine EW.eExtC ?_ | refine EW.eExtA ?_); refine EW.eAssign ?_; refine EW.eAssign ?_; refine EW.eEnd ?_; (try refine EW.nm ?_))
  all_goals try ((first | refine EW.eRegL (id := 13) ?_ | refine EW.eReg (id := 13) ?_); refine EW.eMove ?_; refine EW.eNeq ?_; refine EW.eMove ?_)
  all_goals try (refine EW.eGuard (j := 2) (o := ⟨some 55, _, _, _, _, _⟩) ?_ ?_ <;> (intro hb hb'; (try dsimp only at hb'); (try (exfalso; first | omega | with_reducible exact absurd rfl hb'))))
  all_goals try ((first | refine EW.eSkipF (j := 2) ?_ | refine EW.eSkipU (j := 2) ?_ | refine EW.eMove ?_); (first | refine EW.eSkipF (j := 2) ?_ | refine EW.eSkipU (j := 2) ?_ | refine EW.eTextS ?_ | refine EW.eTextG ?_ | refine EW.eTextN ?_); (first | refine EW.eSkipF (j := 2) ?_ | refine EW.eSkipU (j := 2) ?_ | refine EW.eMove ?_); (first | refine EW.eSkipF (j := 2) ?_ | refine EW.eSkipU (j := 2) ?_ | refine EW.eNil ?_ | refine EW.eNilF ?_ | refine EW.eNilY ?_ | refine EW.eNilP ?_); (first | refine EW.eSkipF (j := 2) ?_ | refine EW.eSkipU (j := 2) ?_ | refine EW.eFieldAddr (k := 1) ?_); (first | refine EW.eSkipF (j := 2) ?_ | refine EW.eSkipU (j := 2) ?_ | refine EW.eLoad1 ?_); (first | refine EW.eSkipF (j := 2) ?_ | refine EW.eSkipU (j := 2) ?_ | refine EW.eTextS ?_ | refine EW.eTextG ?_ | refine EW.eTextN ?_); (first | refine EW.eSkipF (j := 2) ?_ | refine EW.eSkipU (j := 2) ?_ | refine EW.eStrNe ?_); (first | refine EW.ePickT ?_ | refine EW.ePickF ?_); refine EW.eDraw ?_; (try refine EW.nm ?_))
  all_goals try (first | refine EW.eYes (x := Operand.tmp 63) ?_ | refine EW.eNo (x := Operand.tmp 63) ?_ | (refine EW.eCond (x := Operand.tmp 63) ?_ ?_ <;> (intro hb hb'; (try dsimp only at hb'); (try (exfalso; first | omega | with_reducible exact absurd rfl hb')))))
  all_goals try (refine EW.nm ?_)
  all_goals try ((first | refine EW.eRegL (id := 14) ?_ | refine EW.eReg (id := 14) ?_); refine EW.eAssign ?_; refine EW.eEnd ?_; (try refine EW.nm ?_))
  all_goals try (with_reducible refine EW.parkK ?_)
  all_goals try ((first | refine EW.eRegL (id := 15) ?_ | refine EW.eReg (id := 15) ?_); refine EW.eMove ?_; fail "no contract of mullion/pack.NewReader"; refine EW.eAssign ?_; refine EW.eEnd ?_; (try refine EW.nm ?_))
  all_goals try ((first | refine EW.eRegL (id := 16) ?_ | refine EW.eReg (id := 16) ?_); refine EW.eMove ?_; refine EW.eBuild (place := fun i => [(0, 1), (1, 1), (2, 1)][i]?) ?_; refine EW.eBox ?_; refine EW.eAssign ?_; refine EW.eEnd ?_; (try refine EW.nm ?_))
  all_goals try ((first | refine EW.eRegL (id := 17) ?_ | refine EW.eReg (id := 17) ?_); refine EW.eAssign ?_; refine EW.eEnd ?_; (try refine EW.nm ?_))
  all_goals try (refine EW.eUnroll 6 ?_)
  all_goals try (refine EW.nm ?_)
  iterate 6 (
    all_goals try ((first | refine EW.eRegL (id := 18) ?_ | refine EW.eReg (id := 18) ?_); refine EW.eMove ?_; refine EW.eMove ?_; (first | refine EW.eLenS ?_ | refine EW.eLenG ?_ | refine EW.eLenN ?_); refine EW.eLeq ?_; refine EW.eMove ?_)
    all_goals try (refine EW.eGuard (j := 4) (o := ⟨some 74, _, _, _, _, _⟩) ?_ ?_ <;> (intro hb hb'; (try dsimp only at hb'); (try (exfalso; first | omega | with_reducible exact absurd rfl hb'))))
    all_goals try ((first | refine EW.eSkipT (j := 4) ?_ | refine EW.eSkipU (j := 4) ?_ | refine EW.eMove ?_); (first | refine EW.eSkipT (j := 4) ?_ | refine EW.eSkipU (j := 4) ?_ | refine EW.eNil ?_ | refine EW.eNilF ?_ | refine EW.eNilY ?_ | refine EW.eNilP ?_); (first | refine EW.eSkipT (j := 4) ?_ | refine EW.eSkipU (j := 4) ?_ | refine EW.eFieldAddr (k := 1) ?_); (first | refine EW.eSkipT (j := 4) ?_ | refine EW.eSkipU (j := 4) ?_ | refine EW.eLoad1 ?_); (first | refine EW.eSkipT (j := 4) ?_ | refine EW.eSkipU (j := 4) ?_ | refine EW.eNot ?_); (first | refine EW.ePickT ?_ | refine EW.ePickF ?_); refine EW.eEnd ?_; (try refine EW.nm ?_))
    all_goals try (first | refine EW.eYes (x := Operand.tmp 79) ?_ | refine EW.eNo (x := Operand.tmp 79) ?_ | (refine EW.eCond (x := Operand.tmp 79) ?_ ?_ <;> (intro hb hb'; (try dsimp only at hb'); (try (exfalso; first | omega | with_reducible exact absurd rfl hb')))))
    all_goals try (refine EW.nm ?_)
    all_goals try ((first | refine EW.eRegL (id := 20) ?_ | refine EW.eReg (id := 20) ?_); refine EW.eMove ?_; fail "no contract of mullion/pixel.Take"; refine EW.eAlloc ?_; (first | refine EW.eStoreW (k := 4) ?_ | refine EW.eStore (k := 4) ?_); refine EW.eEnd ?_; (try refine EW.nm ?_))
    all_goals try ((first | refine EW.eRegL (id := 21) ?_ | refine EW.eReg (id := 21) ?_); refine EW.eLoadA (k := 4) ?_; refine EW.eMove ?_; fail "no contract of mullion/mullionref13.Take"; refine EW.eNeqA ?_; refine EW.eMove ?_)
    all_goals try (refine EW.eGuard (j := 4) (o := ⟨some 89, _, _, _, _, _⟩) ?_ ?_ <;> (intro hb hb'; (try dsimp only at hb'); (try (exfalso; first | omega | with_reducible exact absurd rfl hb'))))
    all_goals try ((first | refine EW.eSkipF (j := 4) ?_ | refine EW.eSkipU (j := 4) ?_ | refine EW.eMove ?_); (first | refine EW.eSkipF (j := 4) ?_ | refine EW.eSkipU (j := 4) ?_ | fail "no contract of (*mullion/pack.Reader).Left"); (first | refine EW.eSkipF (j := 4) ?_ | refine EW.eSkipU (j := 4) ?_ | refine EW.eMove ?_); (first | refine EW.eSkipF (j := 4) ?_ | refine EW.eSkipU (j := 4) ?_ | fail "no contract of (*mullion/mullionref05.Reader).Left"); (first | refine EW.eSkipF (j := 4) ?_ | refine EW.eSkipU (j := 4) ?_ | refine EW.eNeq ?_); (first | refine EW.ePickT ?_ | refine EW.ePickF ?_); refine EW.eDraw ?_; (try refine EW.nm ?_))
    all_goals try (first | refine EW.eYes (x := Operand.tmp 94) ?_ | refine EW.eNo (x := Operand.tmp 94) ?_ | (refine EW.eCond (x := Operand.tmp 94) ?_ ?_ <;> (intro hb hb'; (try dsimp only at hb'); (try (exfalso; first | omega | with_reducible exact absurd rfl hb')))))
    all_goals try (refine EW.nm ?_)
    all_goals try ((first | refine EW.eRegL (id := 22) ?_ | refine EW.eReg (id := 22) ?_); refine EW.eAssign ?_; refine EW.eEnd ?_; (try refine EW.nm ?_))
    all_goals try (with_reducible refine EW.parkK ?_)
    all_goals try ((first | refine EW.eRegL (id := 23) ?_ | refine EW.eReg (id := 23) ?_); refine EW.eMove ?_; fail "no contract of (*mullion/pack.Reader).End"; refine EW.eAssign ?_; refine EW.eEnd ?_; (try refine EW.nm ?_))
    all_goals try ((first | refine EW.eRegL (id := 24) ?_ | refine EW.eReg (id := 24) ?_); refine EW.eMove ?_; refine EW.eMove ?_; fail "no contract of (*mullion/mullionref05.Reader).End"; refine EW.eNeq ?_; refine EW.eEnd ?_; (try refine EW.nm ?_))
    all_goals try (first | refine EW.eYes (x := Operand.tmp 100) ?_ | refine EW.eNo (x := Operand.tmp 100) ?_ | (refine EW.eCond (x := Operand.tmp 100) ?_ ?_ <;> (intro hb hb'; (try dsimp only at hb'); (try (exfalso; first | omega | with_reducible exact absurd rfl hb')))))
    all_goals try (refine EW.nm ?_)
    all_goals try ((first | refine EW.eRegL (id := 25) ?_ | refine EW.eReg (id := 25) ?_); refine EW.eAssign ?_; refine EW.eEnd ?_; (try refine EW.nm ?_))
    all_goals try (with_reducible refine EW.parkK ?_)
    all_goals try ((first | refine EW.eRegL (id := 19) ?_ | refine EW.eReg (id := 19) ?_); refine EW.eMove ?_; refine EW.eAdd ?_; refine EW.eAssign ?_; refine EW.eEnd ?_; (try refine EW.nm ?_)))
  all_goals try ((first | refine EW.eRegL (id := 26) ?_ | refine EW.eReg (id := 26) ?_); refine EW.eAssign ?_; refine EW.eEnd ?_; (try refine EW.nm ?_))
  all_goals try (with_reducible refine EW.parkK ?_)
  all_goals try (refine EW.Park.mk ?_)
  all_goals (refine EW.eLeaveN [] hR (by first | exact .inl rfl | exact .inr rfl) (by rfl) (by rfl) ?_ ?_ rfl rfl (by (((repeat (first | exact EW.NL.emp | (refine EW.NL.upd ?_ rfl) | refine EW.NL.drp ?_ | refine EW.NL.hp ?_ | refine EW.NL.argS ?_ | refine EW.NL.mix ?_)); (first | done | fail)))) rfl rfl; rotate_left 1; (· ((repeat (first | exact EW.atE.nil | refine EW.atE.lt rfl ?_ | refine EW.atE.lf ?_ | refine EW.atE.b rfl EW.SameB.refl ?_ | (refine EW.atE.b rfl ?_ ?_; rotate_left 1))))))
  all_goals rfl
theorem wf_at {l : List Px} (h : ∀ p ∈ l, p.wf) (i : Nat) (hi : i < l.length) : (l.getD i Px.zero).wf := by
  rw [List.getD_eq_getElem?_getD, List.getElem?_eq_getElem hi]
  exact h _ (List.getElem_mem hi)
theorem pb_row {f : FuncId} (W : World) {b0 o0 len0 room0 b1 o1 len1 room1 : Nat} {v0 v1 : Value} {l : List Px} {bs : List Int} {s : Ws} {hi : Nat} (h0 : l.length = len0) (h1 : bs.length = len1) (sr0 : SrcG W b0 o0 room0 (pvs l)) (hv0 : InG v0 b0 o0 len0 room0 4) (sr1 : SrcG W b1 o1 room1 (nums .u8 bs)) (hv1 : InG v1 b1 o1 len1 room1 1) (hhi : hi ≤ 1000000)
    (hT : CT Try.prog f [.c (.g 0 0 l.length l.length 4), .c (.g 1 0 bs.length bs.length 1)] (upd EW.emp (WPB l bs)) 2 hi (.c (.v (.bool true))) (upd (upd EW.emp (WPB l bs)) s)) : Calls Try.prog f #[v0, v1] W fun e w' => e = .returned (.bool true) ∧ Below W.heap.size W w' := by
  subst h0 h1
  exact calls_rowsG (us := [v0, v1]) (Ls := [pvs l, nums .u8 bs]) (A := [(b0, o0, room0), (b1, o1, room1)]) (w := W) hT rfl hhi
    (fun i L hi => by
      match i, hi with
      | 0, hi => simp only [List.getElem?_cons_zero, Option.some.injEq] at hi; subst hi; exact ⟨sr0, pvs_one l⟩
      | 1, hi => simp only [List.getElem?_cons_succ, List.getElem?_cons_zero, Option.some.injEq] at hi; subst hi; exact ⟨sr1, nums_one .u8 bs⟩
      | i + 2, hi => simp at hi)
    (okvs_sliceG rfl hv0 (okvs_sliceG rfl hv1 okvs_nil))
    (fun v hv n hn => by
      simp only [List.mem_cons, List.not_mem_nil, or_false] at hv
      rcases hv with rfl | rfl <;> simp [V.names, C.names, List.flatMap_cons] at hn <;> simp [hn])
theorem forms_row (W : World) {b0 o0 len0 room0 b1 o1 len1 room1 : Nat} {rows0 rows1 : List (List Value)} {v0 v1 : Value} (hl0 : rows0.length = len0) (ft0 : ∀ s ∈ rows0, Fit [.i .u32, .i .i64, .i .i64, .i .u32] s) (sr0 : SrcG W b0 o0 room0 rows0.flatten) (hv0 : InG v0 b0 o0 len0 room0 4) (hl1 : rows1.length = len1) (ft1 : ∀ s ∈ rows1, Fit [.i .u8] s) (sr1 : SrcG W b1 o1 room1 rows1.flatten) (hv1 : InG v1 b1 o1 len1 room1 1) :
    Calls Try.prog 5 #[v0, v1] W fun e w' => e = .returned (.bool true) ∧ Below W.heap.size W w' := by
  obtain ⟨l, a1, a2, a3⟩ := px_of_rows ft0
  obtain ⟨bs, c1, c2, c3⟩ := bytes_of_rows ft1
  rw [a2] at sr0
  rw [c2] at sr1
  by_cases hf : 100 < l.length ∨ 2000 < bs.length
  · exact pb_row W (by omega) (by omega) sr0 hv0 sr1 hv1 (by decide) (forms_far l bs hf)
  · exact pb_row W (by omega) (by omega) sr0 hv0 sr1 hv1 (by decide) (forms_ok l bs (by omega) (by omega) (wf_at a3) c3)
end Go.Proofs.Ytjcabgoanlhhnaa
