import Derived.Test.YtnmkpekfkfckoaaHRmB
import Derived.Test.YtnmkpekfkfckoaaHRlL
import Derived.Test.YtnmkpekfkfckoaaHRow5
import Derived.Test.YtnmkpekfkfckoaaHEwV
/- rle: the document's Decode. -/
/- RleWrites: whatever comes in. -/
namespace Go.Proofs.Ytnmkpekfkfckoaa
set_option linter.unusedSimpArgs false
set_option linter.unusedVariables false
open Go.RowKit Go.ChangeShapes Go.WideShapes EV
open SX (Wr Tv Qu Rm Sh Is conjP eqs_iff eqs_false)
open EW (PlL PlT PlV PlVs LfV Mm Bt Opn GV YT lpOf nums)
set_option maxRecDepth 20000
theorem wf_of {l : List Px} (h : ∀ p ∈ l, p.wf) (i : Nat) (hi : i < l.length) : (l.getD i Px.zero).wf := by
  rw [List.getD_eq_getElem?_getD, List.getElem?_eq_getElem hi]
  exact h _ (List.getElem_mem hi)
end Go.Proofs.Ytnmkpekfkfckoaa
/- rle: the document's Decode: the walk. -/
/- RleReads: the walk. -/
/- Walking over named blocks: a slice that is moved gets a name of its own. No program in sight. -/
namespace Go.Proofs.Ytnmkpekfkfckoaa.EW
set_option linter.unusedSectionVars false
set_option linter.unusedSimpArgs false
set_option linter.unusedVariables false
open Go.RowKit EV
open SX (Is)
section
variable {c : Ctx} {F : Fence} {nn : Nat} {id : Nat} {ops : Array Oper} {draw : Bool} {Q : Exit → Act → World → Prop} {σ0 σ s s' : Sf} {i : Nat} {rest : List Oper} {tr : List Tr} {sup : List Nat} {e e' : Env} {a : Act} {w : World}
/-- A slice of a block that came in, moved: what it covers gets a name. -/
theorem eMoveSub [hF : WideLike F] (m : Nat) {L L' : List Value} {d : Tmp} {x : Operand} {n o len lb z : Nat} {rt : TypeId} {pos : String} {af : Array Edge} {g : Option (Nat × Bool)} {gk : List Key}
    (hr : RX c F nn id ops draw Q σ0 (i + 1) rest (upd σ ((.t d, .v (.c (.g m 0 len len z))) :: (.l m, .l true) :: (.b m, .b (.w false L')) :: [])) (⟨orR gk (kr (.l m :: .l n :: .b n :: opk x)), (.t d, .v (.c (.g m 0 len len z))) :: (.l m, .l true) :: (.b m, .b (.w false L')) :: []⟩ :: tr) sup)
    (hL : Sub L L' o)
    (hG : autoParam (GOk ops σ g gk) aGOK._auto_1) (hx : opv σ x = some (.c (.g n o len lb z)) := by rfl) (ha : σ (.l n) = some (.l true) := by rfl) (hB : σ (.b n) = some (.b (.w false L)) := by rfl) (hm : autoParam (¬ c.gv m) aGVN._auto_1) (hn : σ (.l m) = none := by rfl) (hN : dOk c.N (some d) = true := by rfl) :
    RX c F nn id ops draw Q σ0 i (⟨some d, .move x, rt, pos, af, g⟩ :: rest) σ tr sup := RX_o (t := ⟨kr (.l m :: .l n :: .b n :: opk x), (.t d, .v (.c (.g m 0 len len z))) :: (.l m, .l true) :: (.b m, .b (.w false L')) :: []⟩) hr hG (LocalO.sub (cap := lb) hF hN rfl (PO.move hx) hm hn ha hB hL)
end
end Go.Proofs.Ytnmkpekfkfckoaa.EW
/- rle: Onto; the document's. -/
namespace Go.Proofs.Ytnmkpekfkfckoaa
set_option linter.unusedSimpArgs false
set_option linter.unusedVariables false
open Go.RowKit Go.ChangeShapes Go.WideShapes EV
open SX (Wr Tv Qu Rm Sh Is conjP eqs_iff eqs_false)
open EW (PlL PlT PlV PlVs LfV Mm Bt Opn GV YT lpOf nums)
set_option maxRecDepth 20000
noncomputable def WLB (l : List Px) (b : List Int) : Ws := [(.l 0, .l true), (.b 0, .b (.w false (pvs l))), (.l 1, .l true), (.b 1, .b (.w false (nums .u8 b)))]
abbrev OntoR (f : FuncId) (l : List Px) (b : List Int) (r : List Px) (e : Int) : Prop := CT Try.prog f [.c (.g 0 0 l.length l.length 4), .c (.g 1 0 b.length b.length 1)] (upd EW.emp (WLB l b)) 2 3 (.t [.inl (.g 2 0 r.length r.length 4), .inl (.v (.int .i64 e))]) (upd (upd EW.emp (WLB l b)) [(.l 2, .l true), (.b 2, .b (.w true (pvs r)))])
set_option linter.unusedSectionVars false
section
variable (l : List Px) (b : List Int) (hl : l.length ≤ 10000)
include hl
theorem ionto_bad (h : ¬ spOk l) : OntoR 24 l b [] 140 := by
  have hO := iover_bad false false l l hl hl (fun x => h x.1)
  have hs0 := pvs_self l
  clear h
  refine EW.ctEnter EW.sup1 Try.func24 rfl Try.ntmps24 rfl EW.nlP ?_; intro w0 tch ini R hR
  all_goals try (refine EW.nm ?_)
  all_goals try (refine EW.eReg (id := 0) ?_; refine EW.eAssign ?_; refine EW.eAssign ?_; refine EW.eEnd ?_; (try refine EW.nm ?_))
  all_goals try (refine EW.eReg (id := 1) ?_; refine EW.eMoveSub 3 ?_ hs0; refine EW.eMoveSub 4 ?_ hs0; refine EW.eCallN [3, 4] Try.call27 (hO) ?_; refine EW.eMove ?_; (first | refine EW.eExtC ?_ | refine EW.eExtA ?_); (first | refine EW.eExtC ?_ | refine EW.eExtA ?_); refine EW.eAssign ?_; refine EW.eAssign ?_; refine EW.eEnd ?_; (try refine EW.nm ?_))
  all_goals try (refine EW.eReg (id := 2) ?_; refine EW.eMove ?_; refine EW.eNeq ?_; refine EW.eEnd ?_; (try refine EW.nm ?_))
  all_goals try (first | refine EW.eYes (x := .tmp 17) ?_ | refine EW.eNo (x := .tmp 17) ?_ | (refine EW.eCond (x := .tmp 17) ?_ ?_ <;> (intro hb hb'; (try dsimp only at hb'); (try (exfalso; first | omega | with_reducible exact absurd rfl hb')))))
  all_goals try (refine EW.nm ?_)
  all_goals try (refine EW.eReg (id := 3) ?_; refine EW.eMove ?_; refine EW.eAssign ?_; refine EW.eAssign ?_; refine EW.eEnd ?_; (try refine EW.nm ?_))
  all_goals try (refine EW.eNilGK 4 5 4 ?_)
  all_goals try (with_reducible refine EW.parkK ?_)
  all_goals try (refine EW.eReg (id := 4) ?_; refine EW.eMove ?_; fail "no contract of mullion/rle.Decode"; refine EW.eMove ?_; (first | refine EW.eExtC ?_ | refine EW.eExtA ?_); (first | refine EW.eExtC ?_ | refine EW.eExtA ?_); refine EW.eAssign ?_; refine EW.eAssign ?_; refine EW.eEnd ?_; (try refine EW.nm ?_))
  all_goals try (refine EW.eReg (id := 5) ?_; refine EW.eMove ?_; refine EW.eNeq ?_; refine EW.eEnd ?_; (try refine EW.nm ?_))
  all_goals try (first | refine EW.eYes (x := .tmp 25) ?_ | refine EW.eNo (x := .tmp 25) ?_ | (refine EW.eCond (x := .tmp 25) ?_ ?_ <;> (intro hb hb'; (try dsimp only at hb'); (try (exfalso; first | omega | with_reducible exact absurd rfl hb')))))
  all_goals try (refine EW.nm ?_)
  all_goals try (refine EW.eReg (id := 6) ?_; refine EW.eMove ?_; refine EW.eAssign ?_; refine EW.eAssign ?_; refine EW.eEnd ?_; (try refine EW.nm ?_))
  all_goals try (with_reducible refine EW.parkK ?_)
  all_goals try (refine EW.eReg (id := 7) ?_; refine EW.eMove ?_; refine EW.eMove ?_; refine EW.eCallN [3, 4] Try.call27 (hO) ?_; (first | refine EW.eExtC ?_ | refine EW.eExtA ?_); (first | refine EW.eExtC ?_ | refine EW.eExtA ?_); refine EW.eAssign ?_; refine EW.eAssign ?_; refine EW.eEnd ?_; (try refine EW.nm ?_))
  all_goals try (with_reducible refine EW.parkK ?_)
  all_goals try (refine EW.Park.mk ?_)
  all_goals (refine EW.eLeaveN [5] hR EW.orP (by rfl) (by rfl) ?_ ?_ rfl rfl EW.nlP rfl rfl; rotate_left 1; (· ((repeat (first | exact EW.atE.nil | refine EW.atE.lt rfl ?_ | refine EW.atE.lf ?_ | refine EW.atE.b rfl EW.SameB.refl ?_ | (refine EW.atE.b rfl ?_ ?_; rotate_left 1))))))
  all_goals rfl
theorem ionto_no (h : spOk l) (r : List Px) (e : Int) (he : ¬ e = 0) (hD : DecR 20 false b r e) : OntoR 24 l b [] e := by
  have hO := iover_y false false l l hl hl h h rfl
  have hs0 := pvs_self l
  clear h
  refine EW.ctEnter EW.sup1 Try.func24 rfl Try.ntmps24 rfl EW.nlP ?_; intro w0 tch ini R hR
  all_goals try (refine EW.nm ?_)
  all_goals try (refine EW.eReg (id := 0) ?_; refine EW.eAssign ?_; refine EW.eAssign ?_; refine EW.eEnd ?_; (try refine EW.nm ?_))
  all_goals try (refine EW.eReg (id := 1) ?_; refine EW.eMoveSub 3 ?_ hs0; refine EW.eMoveSub 4 ?_ hs0; refine EW.eCallN [3, 4] Try.call27 (hO) ?_; refine EW.eMove ?_; (first | refine EW.eExtC ?_ | refine EW.eExtA ?_); (first | refine EW.eExtC ?_ | refine EW.eExtA ?_); refine EW.eAssign ?_; refine EW.eAssign ?_; refine EW.eEnd ?_; (try refine EW.nm ?_))
  all_goals try (refine EW.eReg (id := 2) ?_; refine EW.eMove ?_; refine EW.eNeq ?_; refine EW.eEnd ?_; (try refine EW.nm ?_))
  all_goals try (first | refine EW.eYes (x := .tmp 17) ?_ | refine EW.eNo (x := .tmp 17) ?_ | (refine EW.eCond (x := .tmp 17) ?_ ?_ <;> (intro hb hb'; (try dsimp only at hb'); (try (exfalso; first | omega | with_reducible exact absurd rfl hb')))))
  all_goals try (refine EW.nm ?_)
  all_goals try (refine EW.eReg (id := 3) ?_; refine EW.eMove ?_; refine EW.eAssign ?_; refine EW.eAssign ?_; refine EW.eEnd ?_; (try refine EW.nm ?_))
  all_goals try (with_reducible refine EW.parkK ?_)
  all_goals try (refine EW.eReg (id := 4) ?_; refine EW.eMove ?_; refine EW.eCallN [1] Try.call20 (hD) ?_; refine EW.eMove ?_; (first | refine EW.eExtC ?_ | refine EW.eExtA ?_); (first | refine EW.eExtC ?_ | refine EW.eExtA ?_); refine EW.eAssign ?_; refine EW.eAssign ?_; refine EW.eEnd ?_; (try refine EW.nm ?_))
  all_goals try (refine EW.eReg (id := 5) ?_; refine EW.eMove ?_; refine EW.eNeq ?_; refine EW.eEnd ?_; (try refine EW.nm ?_))
  all_goals try (first | refine EW.eYes (x := .tmp 25) ?_ | refine EW.eNo (x := .tmp 25) ?_ | (refine EW.eCond (x := .tmp 25) ?_ ?_ <;> (intro hb hb'; (try dsimp only at hb'); (try (exfalso; first | omega | with_reducible exact absurd rfl hb')))))
  all_goals try (refine EW.nm ?_)
  all_goals try (refine EW.eReg (id := 6) ?_; refine EW.eMove ?_; refine EW.eAssign ?_; refine EW.eAssign ?_; refine EW.eEnd ?_; (try refine EW.nm ?_))
  all_goals try (refine EW.eNilGK 4 5 4 ?_)
  all_goals try (with_reducible refine EW.parkK ?_)
  all_goals try (refine EW.eReg (id := 7) ?_; refine EW.eMove ?_; refine EW.eMove ?_; refine EW.eCallN [3, 4] Try.call27 (hO) ?_; (first | refine EW.eExtC ?_ | refine EW.eExtA ?_); (first | refine EW.eExtC ?_ | refine EW.eExtA ?_); refine EW.eAssign ?_; refine EW.eAssign ?_; refine EW.eEnd ?_; (try refine EW.nm ?_))
  all_goals try (with_reducible refine EW.parkK ?_)
  all_goals try (refine EW.Park.mk ?_)
  all_goals (refine EW.eLeaveN [5] hR EW.orP (by rfl) (by rfl) ?_ ?_ rfl rfl EW.nlP rfl rfl; rotate_left 1; (· ((repeat (first | exact EW.atE.nil | refine EW.atE.lt rfl ?_ | refine EW.atE.lf ?_ | refine EW.atE.b rfl EW.SameB.refl ?_ | (refine EW.atE.b rfl ?_ ?_; rotate_left 1))))))
  all_goals rfl
theorem ionto_y (h : spOk l) (r0 r : List Px) (e : Int) (hD : DecR 20 false b r0 0) (hO2 : OverR 27 false true l r0 r e) : OntoR 24 l b r e := by
  have hO := iover_y false false l l hl hl h h rfl
  have hs0 := pvs_self l
  clear h
  refine EW.ctEnter EW.sup1 Try.func24 rfl Try.ntmps24 rfl EW.nlP ?_; intro w0 tch ini R hR
  all_goals try (refine EW.nm ?_)
  all_goals try (refine EW.eReg (id := 0) ?_; refine EW.eAssign ?_; refine EW.eAssign ?_; refine EW.eEnd ?_; (try refine EW.nm ?_))
  all_goals try (refine EW.eReg (id := 1) ?_; refine EW.eMoveSub 3 ?_ hs0; refine EW.eMoveSub 4 ?_ hs0; (first | refine EW.eCallN [3, 4] Try.call27 (hO) ?_ | refine EW.eCallN [0, 20] Try.call27 (hO2) ?_); refine EW.eMove ?_; (first | refine EW.eExtC ?_ | refine EW.eExtA ?_); (first | refine EW.eExtC ?_ | refine EW.eExtA ?_); refine EW.eAssign ?_; refine EW.eAssign ?_; refine EW.eEnd ?_; (try refine EW.nm ?_))
  all_goals try (refine EW.eReg (id := 2) ?_; refine EW.eMove ?_; refine EW.eNeq ?_; refine EW.eEnd ?_; (try refine EW.nm ?_))
  all_goals try (first | refine EW.eYes (x := .tmp 17) ?_ | refine EW.eNo (x := .tmp 17) ?_ | (refine EW.eCond (x := .tmp 17) ?_ ?_ <;> (intro hb hb'; (try dsimp only at hb'); (try (exfalso; first | omega | with_reducible exact absurd rfl hb')))))
  all_goals try (refine EW.nm ?_)
  all_goals try (refine EW.eReg (id := 3) ?_; refine EW.eMove ?_; refine EW.eAssign ?_; refine EW.eAssign ?_; refine EW.eEnd ?_; (try refine EW.nm ?_))
  all_goals try (with_reducible refine EW.parkK ?_)
  all_goals try (refine EW.eReg (id := 4) ?_; refine EW.eMove ?_; refine EW.eCallN [1] Try.call20 (hD) ?_; refine EW.eMove ?_; (first | refine EW.eExtC ?_ | refine EW.eExtA ?_); (first | refine EW.eExtC ?_ | refine EW.eExtA ?_); refine EW.eAssign ?_; refine EW.eAssign ?_; refine EW.eEnd ?_; (try refine EW.nm ?_))
  all_goals try (refine EW.eReg (id := 5) ?_; refine EW.eMove ?_; refine EW.eNeq ?_; refine EW.eEnd ?_; (try refine EW.nm ?_))
  all_goals try (first | refine EW.eYes (x := .tmp 25) ?_ | refine EW.eNo (x := .tmp 25) ?_ | (refine EW.eCond (x := .tmp 25) ?_ ?_ <;> (intro hb hb'; (try dsimp only at hb'); (try (exfalso; first | omega | with_reducible exact absurd rfl hb')))))
  all_goals try (refine EW.nm ?_)
  all_goals try (refine EW.eReg (id := 6) ?_; refine EW.eMove ?_; refine EW.eAssign ?_; refine EW.eAssign ?_; refine EW.eEnd ?_; (try refine EW.nm ?_))
  all_goals try (with_reducible refine EW.parkK ?_)
  all_goals try (refine EW.eReg (id := 7) ?_; refine EW.eMove ?_; refine EW.eMove ?_; (first | refine EW.eCallN [3, 4] Try.call27 (hO) ?_ | refine EW.eCallN [0, 20] Try.call27 (hO2) ?_); (first | refine EW.eExtC ?_ | refine EW.eExtA ?_); (first | refine EW.eExtC ?_ | refine EW.eExtA ?_); refine EW.eAssign ?_; refine EW.eAssign ?_; refine EW.eEnd ?_; (try refine EW.nm ?_))
  all_goals try (with_reducible refine EW.parkK ?_)
  all_goals try (refine EW.Park.mk ?_)
  all_goals (refine EW.eLeaveN [30] hR EW.orP (by rfl) (by rfl) ?_ ?_ rfl rfl EW.nlP rfl rfl; rotate_left 1; (· ((repeat (first | exact EW.atE.nil | refine EW.atE.lt rfl ?_ | refine EW.atE.lf ?_ | refine EW.atE.b rfl EW.SameB.refl ?_ | (refine EW.atE.b rfl ?_ ?_; rotate_left 1))))))
  all_goals rfl
end
end Go.Proofs.Ytnmkpekfkfckoaa
