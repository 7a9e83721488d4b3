/- Package pack: the writer's other calls. -/
import Derived.Test.YtnmkpekfkfckoaaHPkC
namespace Go.Proofs.Ytnmkpekfkfckoaa
set_option linter.unusedSimpArgs false
set_option linter.unusedVariables false
open Go.RowKit EV
open SX (Wr Tv Qu Rm Sh Is conjP eqs_iff eqs_false)
open EW (PlL PlT PlV PlVs LfV Mm Bt Opn GV YT lpOf nums)
set_option maxRecDepth 20000
/-- What becomes of a writer's bytes, in new memory. -/
abbrev Wmore (bs : List Int) : Ws := [(.b 0, .b (.m true (wcs 2 bs.length false))), (.l 1, .l false), (.l 2, .l true), (.b 2, .b (.w true (nums .u8 bs)))]
theorem wsmall_ok (n : Nat) (m : Int) (bs : List Int) (h : (n : Int) ≤ m) (hm : m ≤ 9223372036854775807) (hl : bs.length ≤ 500000) : CT Try.prog 33 [.c (.p 0 0), .c (.v (.int .i64 n)), .c (.v (.int .i64 m))] (upd EW.emp (WW bs false)) 2 3 (.t []) (upd (upd EW.emp (WW bs false)) (Wmore (bs ++ formN n))) := by
  refine EW.ctEnter EW.sup1 Try.func33 rfl Try.ntmps33 rfl EW.nlP ?_; intro w0 tch ini R hR
  all_goals try (refine EW.nm ?_)
  all_goals try (refine EW.eReg (id := 0) ?_; refine EW.eMove ?_; refine EW.eLss ?_; refine EW.eMove ?_)
  all_goals try (refine EW.eGuard (j := 2) (o := ⟨some 9, _, _, _, _, _⟩) ?_ ?_ <;> (intro hb hb'; (try dsimp only at hb'); (try (exfalso; first | omega | with_reducible exact absurd rfl hb'))))
  all_goals try ((first | refine EW.eSkipF (j := 2) ?_ | refine EW.eSkipU (j := 2) ?_ | refine EW.eMove ?_); (first | refine EW.eSkipF (j := 2) ?_ | refine EW.eSkipU (j := 2) ?_ | refine EW.eMove ?_); (first | refine EW.eSkipF (j := 2) ?_ | refine EW.eSkipU (j := 2) ?_ | refine EW.eGtr ?_); (first | refine EW.ePickT ?_ | refine EW.ePickF ?_); refine EW.eEnd ?_; (try refine EW.nm ?_))
  all_goals try (first | refine EW.eYes (x := .tmp 12) ?_ | refine EW.eNo (x := .tmp 12) ?_ | (refine EW.eCond (x := .tmp 12) ?_ ?_ <;> (intro hb hb'; (try dsimp only at hb'); (try (exfalso; first | omega | with_reducible exact absurd rfl hb')))))
  all_goals try (refine EW.nm ?_)
  all_goals try (refine EW.eReg (id := 1) ?_; refine EW.eMove ?_; fail "no contract of (*mullion/pack.Writer).spoilt"; refine EW.eEnd ?_; (try refine EW.nm ?_))
  all_goals try (with_reducible refine EW.parkK ?_)
  all_goals try (refine EW.eReg (id := 2) ?_; refine EW.eMove ?_; refine EW.eMove ?_; refine EW.eConv ?_; refine EW.eCallN [0, 1] Try.call57 (wuint_ok n bs (by omega) hl) ?_; refine EW.eEnd ?_; (try refine EW.nm ?_))
  all_goals try (refine EW.Park.mk ?_)
  all_goals (refine EW.eLeaveN [10] hR EW.orP (by rfl) (by rfl) ?_ ?_ rfl rfl EW.nlP rfl rfl; rotate_left 1; (· ((repeat (first | exact EW.atE.nil | refine EW.atE.lt rfl ?_ | refine EW.atE.lf ?_ | refine EW.atE.b rfl EW.SameB.refl ?_ | (refine EW.atE.b rfl ?_ ?_; rotate_left 1))))))
  all_goals rfl
theorem wbytes_ok (bs : List Int) (hl : bs.length ≤ 1000000) : CT Try.prog 36 [.c (.p 0 0)] (upd EW.emp (WW bs false)) 2 3 (.t [.inl (.g 2 0 bs.length bs.length 1), .inl (.v (.int .i64 0))]) (upd (upd EW.emp (WW bs false)) [(.l 2, .l true), (.b 2, .b (.w true (nums .u8 bs)))]) := by
  refine EW.ctEnter EW.sup1 Try.func36 rfl Try.ntmps36 rfl EW.nlP ?_; intro w0 tch ini R hR
  all_goals try (refine EW.nm ?_)
  all_goals try (refine EW.eReg (id := 0) ?_; refine EW.eAssign ?_; refine EW.eAssign ?_; refine EW.eEnd ?_; (try refine EW.nm ?_))
  all_goals try (refine EW.eReg (id := 1) ?_; refine EW.eMove ?_; (first | refine EW.eEqN ?_ | refine EW.eEqNN ?_); refine EW.eMove ?_)
  all_goals try (refine EW.eGuard (j := 2) (o := ⟨some 8, _, _, _, _, _⟩) ?_ ?_ <;> (intro hb hb'; (try dsimp only at hb'); (try (exfalso; first | omega | with_reducible exact absurd rfl hb'))))
  all_goals try ((first | refine EW.eSkipF (j := 2) ?_ | refine EW.eSkipU (j := 2) ?_ | refine EW.eMove ?_); (first | refine EW.eSkipF (j := 2) ?_ | refine EW.eSkipU (j := 2) ?_ | refine EW.eNil ?_ | refine EW.eNilF ?_ | refine EW.eNilY ?_ | refine EW.eNilP ?_); (first | refine EW.eSkipF (j := 2) ?_ | refine EW.eSkipU (j := 2) ?_ | refine EW.eFieldAddr (k := 3) ?_); (first | refine EW.eSkipF (j := 2) ?_ | refine EW.eSkipU (j := 2) ?_ | refine EW.eFieldAddr (k := 1) ?_); (first | refine EW.eSkipF (j := 2) ?_ | refine EW.eSkipU (j := 2) ?_ | refine EW.eLoad1 ?_); (first | refine EW.eSkipF (j := 2) ?_ | refine EW.eSkipU (j := 2) ?_ | refine EW.eNot ?_); (first | refine EW.ePickT ?_ | refine EW.ePickF ?_); refine EW.eAssign ?_; refine EW.eEnd ?_; (try refine EW.nm ?_))
  all_goals try (first | refine EW.eYes (x := .tmp 4) ?_ | refine EW.eNo (x := .tmp 4) ?_ | (refine EW.eCond (x := .tmp 4) ?_ ?_ <;> (intro hb hb'; (try dsimp only at hb'); (try (exfalso; first | omega | with_reducible exact absurd rfl hb')))))
  all_goals try (refine EW.nm ?_)
  all_goals try (refine EW.eReg (id := 2) ?_; refine EW.eAssign ?_; refine EW.eAssign ?_; refine EW.eEnd ?_; (try refine EW.nm ?_))
  all_goals try (with_reducible refine EW.parkK ?_)
  all_goals try (refine EW.eReg (id := 3) ?_; refine EW.eMove ?_; (first | refine EW.eNil ?_ | refine EW.eNilF ?_ | refine EW.eNilY ?_ | refine EW.eNilP ?_); refine EW.eFieldAddr (k := 3) ?_; refine EW.eFieldAddr (k := 1) ?_; refine EW.eLoad1 ?_; refine EW.eAssign ?_; refine EW.eEnd ?_; (try refine EW.nm ?_))
  all_goals try (first | refine EW.eYes (x := .tmp 15) ?_ | refine EW.eNo (x := .tmp 15) ?_ | (refine EW.eCond (x := .tmp 15) ?_ ?_ <;> (intro hb hb'; (try dsimp only at hb'); (try (exfalso; first | omega | with_reducible exact absurd rfl hb')))))
  all_goals try (refine EW.nm ?_)
  all_goals try (refine EW.eReg (id := 4) ?_; refine EW.eAssign ?_; refine EW.eAssign ?_; refine EW.eEnd ?_; (try refine EW.nm ?_))
  all_goals try (with_reducible refine EW.parkK ?_)
  all_goals try (refine EW.eReg (id := 5) ?_; refine EW.eMove ?_; (first | refine EW.eNil ?_ | refine EW.eNilF ?_ | refine EW.eNilY ?_ | refine EW.eNilP ?_); refine EW.eFieldAddr (k := 3) ?_; refine EW.eFieldAddr (k := 1) ?_; refine EW.eLoad1 ?_; refine EW.eCallN [1] Try.call54 (clone_ct true bs hl) ?_; refine EW.eAssign ?_; refine EW.eAssign ?_; refine EW.eEnd ?_; (try refine EW.nm ?_))
  all_goals try (with_reducible refine EW.parkK ?_)
  all_goals try (refine EW.Park.mk ?_)
  all_goals (refine EW.eLeaveN [10] hR EW.orP (by rfl) (by rfl) ?_ ?_ rfl rfl EW.nlP rfl rfl; rotate_left 1; (· ((repeat (first | exact EW.atE.nil | refine EW.atE.lt rfl ?_ | refine EW.atE.lf ?_ | refine EW.atE.b rfl EW.SameB.refl ?_ | (refine EW.atE.b rfl ?_ ?_; rotate_left 1))))))
  all_goals rfl
end Go.Proofs.Ytnmkpekfkfckoaa
