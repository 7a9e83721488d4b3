/- PackBack: what comes in. -/
import Derived.Test.YtnlneihalfekiaaHPkO
namespace Go.Proofs.Ytnlneihalfekiaa
set_option linter.unusedSimpArgs false
set_option linter.unusedVariables false
open Go.RowKit Go.ChangeShapes Go.WideShapes EV
open SX (Wr Tv Qu Rm Sh Is conjP eqs_iff eqs_false)
open EW (PlL PlT PlV PlVs LfV Mm Bt Opn GV YT lpOf nums)
set_option maxRecDepth 20000
theorem great_bad (o : Bool) (l : List Ob) (t : Nat) (h : l.length ≤ 200) (ht : t < l.length) (hs : ∀ j, j < t → (l.getD j Ob.zero).bs.length ≤ 300) (hno : 300 < (l.getD t Ob.zero).bs.length) : CT Try.prog 8 [.c (.g 0 0 l.length l.length 7)] (upd EW.emp (WO o l)) 1 1 (.c (.v (.bool true))) (upd (upd EW.emp (WO o l)) []) := by
  refine EW.ctEnter [10, 20, 30, 40, 50, 60, 70, 80, 90, 100, 110, 120, 130, 140, 150, 160, 170, 180, 190, 200, 210, 220, 230, 240, 250, 260, 270, 280, 290, 300, 310, 320, 330, 340, 350, 360, 370, 380, 390, 400, 410, 420, 430, 440, 450, 460, 470, 480, 490, 500, 510, 520, 530, 540, 550, 560, 570, 580, 590, 600] Try.func8 rfl Try.ntmps8 rfl (by (((repeat (first | exact EW.NL.emp | (refine EW.NL.upd ?_ rfl) | refine EW.NL.drp ?_ | refine EW.NL.hp ?_ | refine EW.NL.argS ?_ | refine EW.NL.mix ?_)); (first | done | fail)))) ?_; intro w0 tch ini R hR
  all_goals try (refine EW.nm ?_)
  all_goals try ((first | refine EW.eRegL (id := 0) ?_ | refine EW.eReg (id := 0) ?_); refine EW.eAssign ?_; refine EW.eEnd ?_; (try refine EW.nm ?_))
  all_goals try ((first | refine EW.eRegL (id := 1) ?_ | refine EW.eReg (id := 1) ?_); refine EW.eMove ?_; (first | refine EW.eLenS ?_ | refine EW.eLenG ?_ | refine EW.eLenN ?_); refine EW.eGtr ?_; refine EW.eEnd ?_; (try refine EW.nm ?_))
  all_goals try (first | refine EW.eYes (x := Operand.tmp 6) ?_ | refine EW.eNo (x := Operand.tmp 6) ?_ | (refine EW.eCond (x := Operand.tmp 6) ?_ ?_ <;> (intro hb hb'; (try dsimp only at hb'); (try (exfalso; first | omega | with_reducible exact absurd rfl hb')))))
  all_goals try (refine EW.nm ?_)
  all_goals try ((first | refine EW.eRegL (id := 2) ?_ | refine EW.eReg (id := 2) ?_); refine EW.eAssign ?_; refine EW.eEnd ?_; (try refine EW.nm ?_))
  all_goals try ((first | refine EW.eRegL (id := 3) ?_ | refine EW.eReg (id := 3) ?_); refine EW.eMove ?_; (first | refine EW.eLenS ?_ | refine EW.eLenG ?_ | refine EW.eLenN ?_); refine EW.eMove ?_; refine EW.eEnd ?_; (try refine EW.nm ?_))
  all_goals first | (fail_if_success (refine EW.eUnroll 1 ?_)) | (refine EW.eLoopD [2, 3, 9, 10, 11, 12, 13, 14, 15, 16, 17, 18, 19] 1000000 (fun x : {k : Nat // k ≤ t} => [(.t 9, .v (.c (.v (.int .i64 x.1))))]) (fun x => t - x.1) (⟨0, by omega⟩) (by ((repeat (first | exact EW.subW.nil | refine EW.subW.cons rfl ?_ | refine EW.subW.conv rfl ?_)); (first | done | fail))) ?_; rintro hcl4 ⟨j, hj⟩; (try dsimp only))
  all_goals try (refine EW.nm ?_)
  all_goals try ((first | refine EW.eRegL (id := 4) ?_ | refine EW.eReg (id := 4) ?_); refine EW.eLss ?_; refine EW.eEnd ?_; (try refine EW.nm ?_))
  all_goals try (first | refine EW.eYes (x := Operand.tmp 10) ?_ | refine EW.eNo (x := Operand.tmp 10) ?_ | (refine EW.eCond (x := Operand.tmp 10) ?_ ?_ <;> (intro hb hb'; (try dsimp only at hb'); (try (exfalso; first | omega | with_reducible exact absurd rfl hb')))))
  all_goals try (refine EW.nm ?_)
  all_goals try ((first | refine EW.eRegL (id := 5) ?_ | refine EW.eReg (id := 5) ?_); refine EW.eMove ?_; refine EW.eAssign ?_; refine EW.eEnd ?_; (try refine EW.nm ?_))
  all_goals (try ((try dsimp only at hj); rcases (show j < t ∨ t = j by omega) with hjt | hjt; (have hsj := hs j hjt); rotate_left; subst hjt; rotate_left))
  all_goals try ((first | refine EW.eRegL (id := 6) ?_ | refine EW.eReg (id := 6) ?_); refine EW.eMove ?_; refine EW.eMove ?_; (first | refine EW.eIndexAddrS (z := 7) ?_ | refine EW.eIndexAddrG (z := 7) ?_); refine EW.eFieldAddr (k := 1) ?_; refine EW.eLoad1 ?_; (first | refine EW.eLenS ?_ | refine EW.eLenG ?_ | refine EW.eLenN ?_); refine EW.eGtr ?_; refine EW.eEnd ?_; (try refine EW.nm ?_))
  all_goals try (first | refine EW.eYes (x := Operand.tmp 18) ?_ | refine EW.eNo (x := Operand.tmp 18) ?_ | (refine EW.eCond (x := Operand.tmp 18) ?_ ?_ <;> (intro hb hb'; (try dsimp only at hb'); (try (exfalso; first | omega | with_reducible exact absurd rfl hb')))))
  all_goals try (refine EW.nm ?_)
  all_goals try ((first | refine EW.eRegL (id := 7) ?_ | refine EW.eReg (id := 7) ?_); refine EW.eAssign ?_; refine EW.eEnd ?_; (try refine EW.nm ?_))
  all_goals try ((first | refine EW.eRegL (id := 8) ?_ | refine EW.eReg (id := 8) ?_); refine EW.eAdd ?_; refine EW.eMove ?_; refine EW.eEnd ?_; (try refine EW.nm ?_))
  all_goals first | (fail_if_success (with_reducible refine EW.isLater ?_)) | (refine EW.eLaterD (⟨j + 1, by omega⟩) (by dsimp only; omega) (by ((repeat (first | exact EW.subW.nil | refine EW.subW.cons rfl ?_ | refine EW.subW.conv rfl ?_)); (first | done | fail))) hcl4)
  all_goals try (refine EW.nm ?_)
  all_goals try ((first | refine EW.eRegL (id := 9) ?_ | refine EW.eReg (id := 9) ?_); refine EW.eAssign ?_; refine EW.eEnd ?_; (try refine EW.nm ?_))
  all_goals (refine EW.eLeaveN [] hR (by first | exact .inl rfl | exact .inr rfl) (by rfl) (by rfl) ?_ ?_ rfl rfl (by (((repeat (first | exact EW.NL.emp | (refine EW.NL.upd ?_ rfl) | refine EW.NL.drp ?_ | refine EW.NL.hp ?_ | refine EW.NL.argS ?_ | refine EW.NL.mix ?_)); (first | done | fail)))) rfl rfl; rotate_left 1; (· ((repeat (first | exact EW.atE.nil | refine EW.atE.lt rfl ?_ | refine EW.atE.lf ?_ | refine EW.atE.b rfl EW.SameB.refl ?_ | (refine EW.atE.b rfl ?_ ?_; rotate_left 1))))))
  all_goals rfl
theorem back_great (W : World) (l : List Ob) (va : Value) (b off room : Nat) (hG : CT Try.prog 8 [.c (.g 0 0 l.length l.length 7)] (upd EW.emp (WO false l)) 1 1 (.c (.v (.bool true))) (upd (upd EW.emp (WO false l)) [])) (hsrc : SrcG W b off room (obs l)) (hin : InA va b off l.length room 7) : Calls Try.prog 6 #[va] W fun e w' => e = .returned (.bool true) ∧ Below W.heap.size W w' := by
  refine EW.eEnterG (us := [va]) (Ls := [obs l]) (A := [(b, off, room)]) (args := [.c (.g 0 0 l.length l.length 7)]) Try.func6 rfl Try.ntmps6 rfl (fun i L hi => by
      match i, hi with
      | 0, hi => simp only [List.getElem?_cons_zero, Option.some.injEq] at hi; subst hi; exact ⟨hsrc, obs_one l⟩
      | i + 1, hi => simp at hi) ⟨va, [], rfl, fun _ => hin.rep (e := envG [(b, off, room)]) (n := 0) rfl rfl rfl, rfl⟩ (fun v hv n hn => by
      simp only [List.mem_cons, List.not_mem_nil, or_false] at hv
      rcases hv with rfl; simp [V.names, C.names] at hn; simp [hn]) ?_
  all_goals try (refine EW.nm ?_)
  all_goals try ((first | refine EW.eRegL (id := 0) ?_ | refine EW.eReg (id := 0) ?_); refine EW.eAssign ?_; refine EW.eEnd ?_; (try refine EW.nm ?_))
  all_goals try ((first | refine EW.eRegL (id := 1) ?_ | refine EW.eReg (id := 1) ?_); refine EW.eCall Try.call21 (fun w => palive w) ?_; refine EW.eAssign ?_; refine EW.eEnd ?_; (try refine EW.nm ?_))
  all_goals try ((first | refine EW.eRegL (id := 2) ?_ | refine EW.eReg (id := 2) ?_); refine EW.eMove ?_; refine EW.eCallN [0] Try.call8 (hG) ?_; refine EW.eMove ?_)
  all_goals try (refine EW.eGuard (j := 2) (o := ⟨some 17, _, _, _, _, _⟩) ?_ ?_ <;> (intro hb hb'; (try dsimp only at hb'); (try (exfalso; first | omega | with_reducible exact absurd rfl hb'))))
  all_goals try ((first | refine EW.eSkipF (j := 2) ?_ | refine EW.eSkipU (j := 2) ?_ | refine EW.eMove ?_); (first | refine EW.eSkipF (j := 2) ?_ | refine EW.eSkipU (j := 2) ?_ | refine EW.eNot ?_); (first | refine EW.ePickT ?_ | refine EW.ePickF ?_); refine EW.eEnd ?_; (try refine EW.nm ?_))
  all_goals try (first | refine EW.eYes (x := Operand.tmp 19) ?_ | refine EW.eNo (x := Operand.tmp 19) ?_ | (refine EW.eCond (x := Operand.tmp 19) ?_ ?_ <;> (intro hb hb'; (try dsimp only at hb'); (try (exfalso; first | omega | with_reducible exact absurd rfl hb')))))
  all_goals try (refine EW.nm ?_)
  all_goals try ((first | refine EW.eRegL (id := 3) ?_ | refine EW.eReg (id := 3) ?_); refine EW.eMove ?_; refine EW.eAssign ?_; refine EW.eEnd ?_; (try refine EW.nm ?_))
  all_goals try ((first | refine EW.eRegL (id := 4) ?_ | refine EW.eReg (id := 4) ?_); fail "no contract of mullion/pack.NewWriter"; refine EW.eAssign ?_; refine EW.eEnd ?_; (try refine EW.nm ?_))
  all_goals try ((first | refine EW.eRegL (id := 5) ?_ | refine EW.eReg (id := 5) ?_); refine EW.eMove ?_; (first | refine EW.eLenS ?_ | refine EW.eLenG ?_ | refine EW.eLenN ?_); refine EW.eMove ?_; refine EW.eEnd ?_; (try refine EW.nm ?_))
  all_goals try (refine EW.eUnroll 6 ?_)
  all_goals try (refine EW.nm ?_)
  iterate 6 (
    all_goals try ((first | refine EW.eRegL (id := 6) ?_ | refine EW.eReg (id := 6) ?_); refine EW.eLss ?_; refine EW.eEnd ?_; (try refine EW.nm ?_))
    all_goals try (first | refine EW.eYes (x := Operand.tmp 25) ?_ | refine EW.eNo (x := Operand.tmp 25) ?_ | (refine EW.eCond (x := Operand.tmp 25) ?_ ?_ <;> (intro hb hb'; (try dsimp only at hb'); (try (exfalso; first | omega | with_reducible exact absurd rfl hb')))))
    all_goals try (refine EW.nm ?_)
    all_goals try ((first | refine EW.eRegL (id := 7) ?_ | refine EW.eReg (id := 7) ?_); refine EW.eMove ?_; refine EW.eAssign ?_; refine EW.eEnd ?_; (try refine EW.nm ?_))
    all_goals try ((first | refine EW.eRegL (id := 8) ?_ | refine EW.eReg (id := 8) ?_); refine EW.eMove ?_; refine EW.eMove ?_; (first | refine EW.eIndexAddrS (z := 7) ?_ | refine EW.eIndexAddrG (z := 7) ?_); refine EW.eLoadA (k := 7) ?_; refine EW.eAlloc ?_; (first | refine EW.eStoreW (k := 7) ?_ | refine EW.eStore (k := 7) ?_); refine EW.eEnd ?_; (try refine EW.nm ?_))
    all_goals try ((first | refine EW.eRegL (id := 9) ?_ | refine EW.eReg (id := 9) ?_); refine EW.eFieldAddr (k := 1) ?_; refine EW.eLoad1 ?_; refine EW.eEnd ?_; (try refine EW.nm ?_))
    all_goals try ((first | refine EW.eRegL (id := 10) ?_ | refine EW.eReg (id := 10) ?_); refine EW.eEql ?_; refine EW.eAssign ?_; refine EW.eEnd ?_; (try refine EW.nm ?_))
    all_goals try (first | refine EW.eYes (x := Operand.tmp 33) ?_ | refine EW.eNo (x := Operand.tmp 33) ?_ | (refine EW.eCond (x := Operand.tmp 33) ?_ ?_ <;> (intro hb hb'; (try dsimp only at hb'); (try (exfalso; first | omega | with_reducible exact absurd rfl hb')))))
    all_goals try (refine EW.nm ?_)
    all_goals try ((first | refine EW.eRegL (id := 11) ?_ | refine EW.eReg (id := 11) ?_); refine EW.eMove ?_; refine EW.eFieldAddr (k := 1) ?_; refine EW.eLoad1 ?_; fail "no contract of (*mullion/pack.Writer).Uint"; refine EW.eEnd ?_; (try refine EW.nm ?_))
    all_goals try ((first | refine EW.eRegL (id := 12) ?_ | refine EW.eReg (id := 12) ?_); refine EW.eEql ?_; refine EW.eAssign ?_; refine EW.eEnd ?_; (try refine EW.nm ?_))
    all_goals try (first | refine EW.eYes (x := Operand.tmp 39) ?_ | refine EW.eNo (x := Operand.tmp 39) ?_ | (refine EW.eCond (x := Operand.tmp 39) ?_ ?_ <;> (intro hb hb'; (try dsimp only at hb'); (try (exfalso; first | omega | with_reducible exact absurd rfl hb')))))
    all_goals try (refine EW.nm ?_)
    all_goals try ((first | refine EW.eRegL (id := 13) ?_ | refine EW.eReg (id := 13) ?_); refine EW.eMove ?_; refine EW.eFieldAddr (k := 1) ?_; refine EW.eLoad1 ?_; fail "no contract of (*mullion/pack.Writer).Int"; refine EW.eEnd ?_; (try refine EW.nm ?_))
    all_goals try ((first | refine EW.eRegL (id := 14) ?_ | refine EW.eReg (id := 14) ?_); refine EW.eEql ?_; refine EW.eAssign ?_; refine EW.eEnd ?_; (try refine EW.nm ?_))
    all_goals try (first | refine EW.eYes (x := Operand.tmp 45) ?_ | refine EW.eNo (x := Operand.tmp 45) ?_ | (refine EW.eCond (x := Operand.tmp 45) ?_ ?_ <;> (intro hb hb'; (try dsimp only at hb'); (try (exfalso; first | omega | with_reducible exact absurd rfl hb')))))
    all_goals try (refine EW.nm ?_)
    all_goals try ((first | refine EW.eRegL (id := 15) ?_ | refine EW.eReg (id := 15) ?_); refine EW.eMove ?_; refine EW.eFieldAddr (k := 1) ?_; refine EW.eLoad1 ?_; refine EW.eAnd ?_; fail "no contract of (*mullion/pack.Writer).Small"; refine EW.eEnd ?_; (try refine EW.nm ?_))
    all_goals try ((first | refine EW.eRegL (id := 16) ?_ | refine EW.eReg (id := 16) ?_); refine EW.eEql ?_; refine EW.eAssign ?_; refine EW.eEnd ?_; (try refine EW.nm ?_))
    all_goals try (first | refine EW.eYes (x := Operand.tmp 52) ?_ | refine EW.eNo (x := Operand.tmp 52) ?_ | (refine EW.eCond (x := Operand.tmp 52) ?_ ?_ <;> (intro hb hb'; (try dsimp only at hb'); (try (exfalso; first | omega | with_reducible exact absurd rfl hb')))))
    all_goals try (refine EW.nm ?_)
    all_goals try ((first | refine EW.eRegL (id := 17) ?_ | refine EW.eReg (id := 17) ?_); refine EW.eMove ?_; refine EW.eFieldAddr (k := 1) ?_; refine EW.eLoad1 ?_; fail "no contract of (*mullion/pack.Writer).Bit"; refine EW.eEnd ?_; (try refine EW.nm ?_))
    all_goals try ((first | refine EW.eRegL (id := 18) ?_ | refine EW.eReg (id := 18) ?_); refine EW.eEql ?_; refine EW.eAssign ?_; refine EW.eEnd ?_; (try refine EW.nm ?_))
    all_goals try (first | refine EW.eYes (x := Operand.tmp 58) ?_ | refine EW.eNo (x := Operand.tmp 58) ?_ | (refine EW.eCond (x := Operand.tmp 58) ?_ ?_ <;> (intro hb hb'; (try dsimp only at hb'); (try (exfalso; first | omega | with_reducible exact absurd rfl hb')))))
    all_goals try (refine EW.nm ?_)
    all_goals try ((first | refine EW.eRegL (id := 19) ?_ | refine EW.eReg (id := 19) ?_); refine EW.eMove ?_; refine EW.eFieldAddr (k := 1) ?_; refine EW.eLoad1 ?_; fail "no contract of (*mullion/pack.Writer).Text"; refine EW.eEnd ?_; (try refine EW.nm ?_))
    all_goals try ((first | refine EW.eRegL (id := 20) ?_ | refine EW.eReg (id := 20) ?_); refine EW.eAdd ?_; refine EW.eMove ?_; refine EW.eEnd ?_; (try refine EW.nm ?_)))
  all_goals try ((first | refine EW.eRegL (id := 21) ?_ | refine EW.eReg (id := 21) ?_); refine EW.eMove ?_; fail "no contract of (*mullion/pack.Writer).Bytes"; refine EW.eMove ?_; (first | refine EW.eExtC ?_ | refine EW.eExtA ?_); (first | refine EW.eExtC ?_ | refine EW.eExtA ?_); refine EW.eAssign ?_; refine EW.eAssign ?_; refine EW.eEnd ?_; (try refine EW.nm ?_))
  all_goals try ((first | refine EW.eRegL (id := 22) ?_ | refine EW.eReg (id := 22) ?_); refine EW.eMove ?_; refine EW.eNeq ?_; refine EW.eEnd ?_; (try refine EW.nm ?_))
  all_goals try (first | refine EW.eYes (x := Operand.tmp 71) ?_ | refine EW.eNo (x := Operand.tmp 71) ?_ | (refine EW.eCond (x := Operand.tmp 71) ?_ ?_ <;> (intro hb hb'; (try dsimp only at hb'); (try (exfalso; first | omega | with_reducible exact absurd rfl hb')))))
  all_goals try (refine EW.nm ?_)
  all_goals try ((first | refine EW.eRegL (id := 23) ?_ | refine EW.eReg (id := 23) ?_); refine EW.eAssign ?_; refine EW.eEnd ?_; (try refine EW.nm ?_))
  all_goals try ((first | refine EW.eRegL (id := 24) ?_ | refine EW.eReg (id := 24) ?_); refine EW.eMove ?_; fail "no contract of mullion/pack.NewReader"; refine EW.eAssign ?_; refine EW.eEnd ?_; (try refine EW.nm ?_))
  all_goals try ((first | refine EW.eRegL (id := 25) ?_ | refine EW.eReg (id := 25) ?_); refine EW.eMove ?_; (first | refine EW.eLenS ?_ | refine EW.eLenG ?_ | refine EW.eLenN ?_); refine EW.eMove ?_; refine EW.eEnd ?_; (try refine EW.nm ?_))
  all_goals try (refine EW.eUnroll 6 ?_)
  all_goals try (refine EW.nm ?_)
  iterate 6 (
    all_goals try ((first | refine EW.eRegL (id := 26) ?_ | refine EW.eReg (id := 26) ?_); refine EW.eLss ?_; refine EW.eEnd ?_; (try refine EW.nm ?_))
    all_goals try (first | refine EW.eYes (x := Operand.tmp 77) ?_ | refine EW.eNo (x := Operand.tmp 77) ?_ | (refine EW.eCond (x := Operand.tmp 77) ?_ ?_ <;> (intro hb hb'; (try dsimp only at hb'); (try (exfalso; first | omega | with_reducible exact absurd rfl hb')))))
    all_goals try (refine EW.nm ?_)
    all_goals try ((first | refine EW.eRegL (id := 27) ?_ | refine EW.eReg (id := 27) ?_); refine EW.eMove ?_; refine EW.eAssign ?_; refine EW.eEnd ?_; (try refine EW.nm ?_))
    all_goals try ((first | refine EW.eRegL (id := 28) ?_ | refine EW.eReg (id := 28) ?_); refine EW.eMove ?_; refine EW.eMove ?_; (first | refine EW.eIndexAddrS (z := 7) ?_ | refine EW.eIndexAddrG (z := 7) ?_); refine EW.eLoadA (k := 7) ?_; refine EW.eAlloc ?_; (first | refine EW.eStoreW (k := 7) ?_ | refine EW.eStore (k := 7) ?_); refine EW.eEnd ?_; (try refine EW.nm ?_))
    all_goals try ((first | refine EW.eRegL (id := 29) ?_ | refine EW.eReg (id := 29) ?_); refine EW.eAssign ?_; refine EW.eEnd ?_; (try refine EW.nm ?_))
    all_goals try ((first | refine EW.eRegL (id := 30) ?_ | refine EW.eReg (id := 30) ?_); refine EW.eFieldAddr (k := 1) ?_; refine EW.eLoad1 ?_; refine EW.eEnd ?_; (try refine EW.nm ?_))
    all_goals try ((first | refine EW.eRegL (id := 31) ?_ | refine EW.eReg (id := 31) ?_); refine EW.eEql ?_; refine EW.eAssign ?_; refine EW.eEnd ?_; (try refine EW.nm ?_))
    all_goals try (first | refine EW.eYes (x := Operand.tmp 85) ?_ | refine EW.eNo (x := Operand.tmp 85) ?_ | (refine EW.eCond (x := Operand.tmp 85) ?_ ?_ <;> (intro hb hb'; (try dsimp only at hb'); (try (exfalso; first | omega | with_reducible exact absurd rfl hb')))))
    all_goals try (refine EW.nm ?_)
    all_goals try ((first | refine EW.eRegL (id := 32) ?_ | refine EW.eReg (id := 32) ?_); refine EW.eMove ?_; fail "no contract of (*mullion/pack.Reader).Uint"; refine EW.eFieldAddr (k := 1) ?_; refine EW.eLoad1 ?_; refine EW.eEql ?_; refine EW.eAssign ?_; refine EW.eDraw ?_; (try refine EW.nm ?_))
    all_goals try ((first | refine EW.eRegL (id := 33) ?_ | refine EW.eReg (id := 33) ?_); refine EW.eEql ?_; refine EW.eAssign ?_; refine EW.eEnd ?_; (try refine EW.nm ?_))
    all_goals try (first | refine EW.eYes (x := Operand.tmp 92) ?_ | refine EW.eNo (x := Operand.tmp 92) ?_ | (refine EW.eCond (x := Operand.tmp 92) ?_ ?_ <;> (intro hb hb'; (try dsimp only at hb'); (try (exfalso; first | omega | with_reducible exact absurd rfl hb')))))
    all_goals try (refine EW.nm ?_)
    all_goals try ((first | refine EW.eRegL (id := 34) ?_ | refine EW.eReg (id := 34) ?_); refine EW.eMove ?_; fail "no contract of (*mullion/pack.Reader).Int"; refine EW.eFieldAddr (k := 1) ?_; refine EW.eLoad1 ?_; refine EW.eEql ?_; refine EW.eAssign ?_; refine EW.eDraw ?_; (try refine EW.nm ?_))
    all_goals try ((first | refine EW.eRegL (id := 35) ?_ | refine EW.eReg (id := 35) ?_); refine EW.eEql ?_; refine EW.eAssign ?_; refine EW.eEnd ?_; (try refine EW.nm ?_))
    all_goals try (first | refine EW.eYes (x := Operand.tmp 99) ?_ | refine EW.eNo (x := Operand.tmp 99) ?_ | (refine EW.eCond (x := Operand.tmp 99) ?_ ?_ <;> (intro hb hb'; (try dsimp only at hb'); (try (exfalso; first | omega | with_reducible exact absurd rfl hb')))))
    all_goals try (refine EW.nm ?_)
    all_goals try ((first | refine EW.eRegL (id := 36) ?_ | refine EW.eReg (id := 36) ?_); refine EW.eMove ?_; fail "no contract of (*mullion/pack.Reader).Small"; refine EW.eFieldAddr (k := 1) ?_; refine EW.eLoad1 ?_; refine EW.eAnd ?_; refine EW.eEql ?_; refine EW.eAssign ?_; refine EW.eDraw ?_; (try refine EW.nm ?_))
    all_goals try ((first | refine EW.eRegL (id := 37) ?_ | refine EW.eReg (id := 37) ?_); refine EW.eEql ?_; refine EW.eAssign ?_; refine EW.eEnd ?_; (try refine EW.nm ?_))
    all_goals try (first | refine EW.eYes (x := Operand.tmp 107) ?_ | refine EW.eNo (x := Operand.tmp 107) ?_ | (refine EW.eCond (x := Operand.tmp 107) ?_ ?_ <;> (intro hb hb'; (try dsimp only at hb'); (try (exfalso; first | omega | with_reducible exact absurd rfl hb')))))
    all_goals try (refine EW.nm ?_)
    all_goals try ((first | refine EW.eRegL (id := 38) ?_ | refine EW.eReg (id := 38) ?_); refine EW.eMove ?_; fail "no contract of (*mullion/pack.Reader).Bit"; refine EW.eFieldAddr (k := 1) ?_; refine EW.eLoad1 ?_; refine EW.eEqlB ?_; refine EW.eAssign ?_; refine EW.eDraw ?_; (try refine EW.nm ?_))
    all_goals try ((first | refine EW.eRegL (id := 39) ?_ | refine EW.eReg (id := 39) ?_); refine EW.eEql ?_; refine EW.eAssign ?_; refine EW.eEnd ?_; (try refine EW.nm ?_))
    all_goals try (first | refine EW.eYes (x := Operand.tmp 114) ?_ | refine EW.eNo (x := Operand.tmp 114) ?_ | (refine EW.eCond (x := Operand.tmp 114) ?_ ?_ <;> (intro hb hb'; (try dsimp only at hb'); (try (exfalso; first | omega | with_reducible exact absurd rfl hb')))))
    all_goals try (refine EW.nm ?_)
    all_goals try ((first | refine EW.eRegL (id := 40) ?_ | refine EW.eReg (id := 40) ?_); refine EW.eMove ?_; fail "no contract of (*mullion/pack.Reader).Text"; (first | refine EW.eTextS ?_ | refine EW.eTextG ?_ | refine EW.eTextN ?_); refine EW.eFieldAddr (k := 1) ?_; refine EW.eLoad1 ?_; (first | refine EW.eTextS ?_ | refine EW.eTextG ?_ | refine EW.eTextN ?_); refine EW.eStrEq ?_; refine EW.eAssign ?_; refine EW.eDraw ?_; (try refine EW.nm ?_))
    all_goals try ((first | refine EW.eRegL (id := 41) ?_ | refine EW.eReg (id := 41) ?_); refine EW.eMove ?_; refine EW.eNot ?_; refine EW.eEnd ?_; (try refine EW.nm ?_))
    all_goals try (first | refine EW.eYes (x := Operand.tmp 124) ?_ | refine EW.eNo (x := Operand.tmp 124) ?_ | (refine EW.eCond (x := Operand.tmp 124) ?_ ?_ <;> (intro hb hb'; (try dsimp only at hb'); (try (exfalso; first | omega | with_reducible exact absurd rfl hb')))))
    all_goals try (refine EW.nm ?_)
    all_goals try ((first | refine EW.eRegL (id := 42) ?_ | refine EW.eReg (id := 42) ?_); refine EW.eAssign ?_; refine EW.eEnd ?_; (try refine EW.nm ?_))
    all_goals try ((first | refine EW.eRegL (id := 43) ?_ | refine EW.eReg (id := 43) ?_); refine EW.eAdd ?_; refine EW.eMove ?_; refine EW.eEnd ?_; (try refine EW.nm ?_)))
  all_goals try ((first | refine EW.eRegL (id := 44) ?_ | refine EW.eReg (id := 44) ?_); refine EW.eMove ?_; refine EW.eMove ?_)
  all_goals try (refine EW.eGuard (j := 1) (o := ⟨some 128, _, _, _, _, _⟩) ?_ ?_ <;> (intro hb hb'; (try dsimp only at hb'); (try (exfalso; first | omega | with_reducible exact absurd rfl hb'))))
  all_goals try ((first | refine EW.eSkipT (j := 1) ?_ | refine EW.eSkipU (j := 1) ?_ | refine EW.eMove ?_); (first | refine EW.eSkipT (j := 1) ?_ | refine EW.eSkipU (j := 1) ?_ | fail "no contract of (*mullion/pack.Reader).Left"); (first | refine EW.eSkipT (j := 1) ?_ | refine EW.eSkipU (j := 1) ?_ | refine EW.eEql ?_); (first | refine EW.ePickT ?_ | refine EW.ePickF ?_); refine EW.eMove ?_)
  all_goals try (refine EW.eGuard (j := 6) (o := ⟨some 133, _, _, _, _, _⟩) ?_ ?_ <;> (intro hb hb'; (try dsimp only at hb'); (try (exfalso; first | omega | with_reducible exact absurd rfl hb'))))
  all_goals try ((first | refine EW.eSkipT (j := 6) ?_ | refine EW.eSkipU (j := 6) ?_ | refine EW.eMove ?_); (first | refine EW.eSkipT (j := 6) ?_ | refine EW.eSkipU (j := 6) ?_ | fail "no contract of (*mullion/pack.Reader).End"); (first | refine EW.eSkipT (j := 6) ?_ | refine EW.eSkipU (j := 6) ?_ | refine EW.eEql ?_); (first | refine EW.ePickT ?_ | refine EW.ePickF ?_); refine EW.eAssign ?_; refine EW.eEnd ?_; (try refine EW.nm ?_))
  all_goals (refine EW.eLeaveP ?_; intro w' hW; refine ⟨?_, hW⟩)
  all_goals rfl
theorem op_of_trod {H : Type} {enc : TypeId × Value → H} {W : World} {m : Nat} {cs : List Value} {x : DataW H × List MemPlace} (h : DataW.trod enc Try.prog W 0 (fun _ => true) true m 32 cs = some x) : ∃ o : Ob, cs = o.vals ∧ o.ok W := by
  obtain ⟨hl, hf⟩ := trod_fields Try.underlying32 h
  have hl7 : cs.length = 7 := hl.trans (by kernel_rfl)
  match cs, hl7 with
  | [c0, c1, c2, c3, c4, c5, c6], _ =>
    obtain ⟨m0, y0, g0⟩ := hf ⟨"Kind", 3, 0, false, "", "", 0⟩ (by simp)
    obtain ⟨m1, y1, g1⟩ := hf ⟨"U", 30, 1, false, "", "", 8⟩ (by simp)
    obtain ⟨m2, y2, g2⟩ := hf ⟨"I", 2, 2, false, "", "", 16⟩ (by simp)
    obtain ⟨m3, y3, g3⟩ := hf ⟨"N", 3, 3, false, "", "", 24⟩ (by simp)
    obtain ⟨m4, y4, g4⟩ := hf ⟨"Most", 3, 4, false, "", "", 32⟩ (by simp)
    obtain ⟨m5, y5, g5⟩ := hf ⟨"Is", 4, 5, false, "", "", 40⟩ (by simp)
    obtain ⟨m6, y6, g6⟩ := hf ⟨"B", 27, 6, false, "", "", 48⟩ (by simp)
    have k3 : Try.prog.cellsOf 3 = 1 := by kernel_rfl
    have k30 : Try.prog.cellsOf 30 = 1 := by kernel_rfl
    have k2 : Try.prog.cellsOf 2 = 1 := by kernel_rfl
    have k4 : Try.prog.cellsOf 4 = 1 := by kernel_rfl
    have k27 : Try.prog.cellsOf 27 = 1 := by kernel_rfl
    simp only [k3, List.drop_succ_cons, List.drop_zero, List.take_succ_cons, List.take_zero] at g0 g3 g4
    simp only [k30, List.drop_succ_cons, List.drop_zero, List.take_succ_cons, List.take_zero] at g1
    simp only [k2, List.drop_succ_cons, List.drop_zero, List.take_succ_cons, List.take_zero] at g2
    simp only [k4, List.drop_succ_cons, List.drop_zero, List.take_succ_cons, List.take_zero] at g5
    simp only [k27, List.drop_succ_cons, List.drop_zero, List.take_succ_cons, List.take_zero] at g6
    obtain ⟨n0, rfl, _, _⟩ := trod_int Try.underlying3 g0
    obtain ⟨n1, rfl, a1, b1⟩ := trod_int Try.underlying30 g1
    obtain ⟨n2, rfl, a2, b2⟩ := trod_int Try.underlying2 g2
    obtain ⟨n3, rfl, _, _⟩ := trod_int Try.underlying3 g3
    obtain ⟨n4, rfl, _, _⟩ := trod_int Try.underlying3 g4
    obtain ⟨f, rfl⟩ := trod_bool Try.underlying4 g5
    obtain ⟨b, off, len, room, rows, q1, q2, q3, q4⟩ := open_sliceQ (Q := Fit [.i .u8]) Try.underlying27 (z := 1) (by kernel_rfl) (by decide) (fun m cs x h => flat_fit (ks := [.i .u8]) 1 5 (by simp [flatK, Try.underlying5]) _ _ _ h) g6
    obtain ⟨bs, r1, r2, r3⟩ := bytes_of_rows (fun s hs => (q2 s hs).2)
    obtain rfl : bs.length = len := by omega
    rw [r2] at q3
    have hu0 : (0 : Int) ≤ n1 := a1
    have hu1 : n1 ≤ 18446744073709551615 := b1
    have hv : ∃ a cap, c6 = .slice a bs.length cap := by
      rcases q4 with ⟨cap, e, _⟩ | ⟨e, a, e2⟩
      · exact ⟨_, cap, e⟩
      · exact ⟨a, 0, by rw [e2, e]⟩
    obtain ⟨a, cap, rfl⟩ := hv
    refine ⟨⟨n0, n1.toNat, n2, n3, n4, f, a, cap, b, off, room, bs⟩, ?_, ⟨by dsimp only; omega, a2, b2, r3, q4, q3⟩⟩
    show [Value.int .i64 n0, .int .u64 n1, .int .i64 n2, .int .i64 n3, .int .i64 n4, .bool f, .slice a bs.length cap] = [.int .i64 n0, .int .u64 (n1.toNat : Int), .int .i64 n2, .int .i64 n3, .int .i64 n4, .bool f, .slice a bs.length cap]
    rw [Int.toNat_of_nonneg hu0]
theorem ops_of_rows {W : World} : ∀ {rows : List (List Value)}, (∀ s ∈ rows, s.length = 7 ∧ ∃ o : Ob, s = o.vals ∧ o.ok W) → ∃ l : List Ob, l.length = rows.length ∧ rows.flatten = obs l ∧ ∀ o ∈ l, o.ok W
  | [], _ => ⟨[], rfl, rfl, fun o ho => by cases ho⟩
  | s :: rows, h => by
    obtain ⟨l, h1, h2, h3⟩ := ops_of_rows (rows := rows) (fun s hs => h s (List.mem_cons_of_mem _ hs))
    obtain ⟨_, o, rfl, ho⟩ := h s List.mem_cons_self
    refine ⟨o :: l, by simp [h1], by rw [List.flatten_cons, h2]; rfl, fun x hx => ?_⟩
    rcases List.mem_cons.1 hx with rfl | hx
    · exact ho
    · exact h3 x hx
theorem first_no {p : Nat → Prop} [DecidablePred p] : ∀ {n : Nat}, ¬ (∀ t, t < n → p t) → ∃ t, t < n ∧ (∀ i, i < t → p i) ∧ ¬ p t
  | 0, h => absurd (fun t ht => by omega) h
  | n + 1, h => by
    by_cases h' : ∀ t, t < n → p t
    · refine ⟨n, by omega, h', fun hn => h fun t ht => ?_⟩
      rcases Nat.lt_or_ge t n with h1 | h1
      · exact h' t h1
      · obtain rfl : t = n := by omega
        exact hn
    · obtain ⟨t, h1, h2, h3⟩ := first_no h'
      exact ⟨t, by omega, h2, h3⟩
theorem back_row {H : Type} {enc : TypeId × Value → H} (W : World) {m : Nat} {v : Value} {x : DataW H × List MemPlace} (h : DataW.trod enc Try.prog W 0 (fun _ => true) true m 22 [v] = some x) :
    Calls Try.prog 6 #[v] W fun e w' => e = .returned (.bool true) ∧ Below W.heap.size W w' := by
  obtain ⟨b, off, len, room, rows, q1, q2, q3, q4⟩ := open_sliceQ (Q := fun s => ∃ o : Ob, s = o.vals ∧ o.ok W) Try.underlying22 (z := 7) (by kernel_rfl) (by decide) (fun m cs x h => op_of_trod h) h
  obtain ⟨l, h1, h2, h3⟩ := ops_of_rows q2
  obtain rfl : l.length = len := by omega
  rw [h2] at q3
  have hv : ∀ j, j < l.length → (l.getD j Ob.zero).ok W := fun j hj => by
    rw [List.getD_eq_getElem?_getD, List.getElem?_eq_getElem hj]; exact h3 _ (List.getElem_mem hj)
  rcases Nat.lt_or_ge 200 l.length with hl | hl
  · refine back_great W l v b off room (great_far false l hl ?_) q3 q4
    rcases q4 with ⟨cap, _, e1, e2, _⟩ | ⟨e1, _⟩
    · exact Nat.le_trans e1 e2
    · rw [e1]; exact Nat.zero_le _
  · by_cases hB : ∀ t, t < l.length → (l.getD t Ob.zero).bs.length ≤ 300
    · exact back_ok W l v b off room hl hv hB q3 q4
    · have : ∃ t, t < l.length ∧ (∀ i, i < t → (l.getD i Ob.zero).bs.length ≤ 300) ∧ ¬ (l.getD t Ob.zero).bs.length ≤ 300 := by
        exact first_no hB
      obtain ⟨t, t1, t2, t3⟩ := this
      exact back_great W l v b off room (great_bad false l t hl t1 t2 (by omega)) q3 q4
end Go.Proofs.Ytnlneihalfekiaa
