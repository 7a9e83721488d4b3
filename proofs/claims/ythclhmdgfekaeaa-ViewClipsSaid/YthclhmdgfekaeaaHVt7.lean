/- ViewCorners. -/
import Derived.Test.YthclhmdgfekaeaaHVt6
import Derived.Test.YthclhmdgfekaeaaHRow4
namespace Go.Proofs.Ythclhmdgfekaeaa
set_option linter.unusedSimpArgs false
set_option linter.unusedVariables false
open Go.RowKit EV
open SX (Wr Tv Qu Rm Sh Is conjP eqs_iff eqs_false)
open EW (PlL PlT PlV PlVs LfV Mm Bt Opn GV YT lpOf nums)
set_option maxRecDepth 20000
/-- A vertex' corner. -/
def crn (W H : Int) (v : Vx) : T3 := ⟨crX v.x v.q W, crY v.y v.q H, crZ v.z v.q⟩
abbrev Vx.seen (v : Vx) : Prop := seenP v.x v.y v.z v.q
theorem crn1_y (v : Vx) (W H : Int) (hs : v.seen) (hz : sized W H) : Ofc [.int .i64 W] [.int .i64 H] v (crn W H v) 0 := by
  have hC := fun w => vcorner_y v.x v.y v.z v.q W H w hs hz
  have e : crn W H v = ⟨crX v.x v.q W, crY v.y v.q H, crZ v.z v.q⟩ := rfl
  rw [e]
  generalize crX v.x v.q W = X at *
  generalize crY v.y v.q H = Y at *
  generalize crZ v.z v.q = Z at *
  refine EW.ctEnter [10, 20, 30, 40, 50, 60, 70, 80, 90, 100, 110, 120, 130, 140, 150, 160, 170, 180, 190, 200, 210, 220, 230, 240, 250, 260, 270, 280, 290, 300, 310, 320, 330, 340, 350, 360, 370, 380, 390, 400, 410, 420, 430, 440, 450, 460, 470, 480, 490, 500, 510, 520, 530, 540, 550, 560, 570, 580, 590, 600] Try.func35 rfl Try.ntmps35 rfl (by (((repeat (first | exact EW.NL.emp | (refine EW.NL.upd ?_ rfl) | refine EW.NL.drp ?_ | refine EW.NL.hp ?_ | refine EW.NL.argS ?_ | refine EW.NL.mix ?_)); (first | done | fail)))) ?_; intro w0 tch ini R hR
  all_goals try (refine EW.nm ?_)
  all_goals try ((first | refine EW.eRegL (id := 0) ?_ | refine EW.eReg (id := 0) ?_); refine EW.eBox ?_; refine EW.eAlloc ?_; refine EW.eAssign ?_; refine EW.eEnd ?_; (try refine EW.nm ?_))
  all_goals try ((first | refine EW.eRegL (id := 1) ?_ | refine EW.eReg (id := 1) ?_); refine EW.eLoadA (k := 4) ?_; refine EW.eLoad1 ?_; refine EW.eLoad1 ?_; refine EW.eCall Try.call13 (fun w => hC w) ?_; (first | refine EW.eExtC ?_ | refine EW.eExtA ?_); (first | refine EW.eExtC ?_ | refine EW.eExtA ?_); (first | refine EW.eStoreW (k := 3) ?_ | refine EW.eStore (k := 3) ?_); refine EW.eAssign ?_; refine EW.eEnd ?_; (try refine EW.nm ?_))
  all_goals try (with_reducible refine EW.parkK ?_)
  all_goals try (refine EW.Park.mk ?_)
  all_goals (refine EW.eLeaveN [] hR (by first | exact .inl rfl | exact .inr rfl) (by rfl) (by rfl) ?_ ?_ rfl rfl (by (((repeat (first | exact EW.NL.emp | (refine EW.NL.upd ?_ rfl) | refine EW.NL.drp ?_ | refine EW.NL.hp ?_ | refine EW.NL.argS ?_ | refine EW.NL.mix ?_)); (first | done | fail)))) rfl rfl; rotate_left 1; (· ((repeat (first | exact EW.atE.nil | refine EW.atE.lt rfl ?_ | refine EW.atE.lf ?_ | refine EW.atE.b rfl EW.SameB.refl ?_ | (refine EW.atE.b rfl ?_ ?_; rotate_left 1))))))
  all_goals rfl
noncomputable def WV4 (o : Bool) (l : List Vx) : Ws := [(.l 0, .l true), (.b 0, .b (.w o (vvs l)))]
theorem vcs_ok (o : Bool) (l : List Vx) (W H : Int) (hz : sized W H) (hl : l.length ≤ 1000) (hs : ∀ i, i < l.length → (l.getD i Vx.zero).seen) : CT Try.prog 17 [.c (.g 0 0 l.length l.length 4), .c (.v (.int .i64 W)), .c (.v (.int .i64 H))] (upd EW.emp (WV4 o l)) 1 2 (.t [.inl (.g 1 0 (l.map (crn W H)).length (l.map (crn W H)).length 3), .inl (.v (.int .i64 0))]) (upd (upd EW.emp (WV4 o l)) [(.l 1, .l true), (.b 1, .b (.w true (tvs (l.map (crn W H)))))]) := by
  have hA := call_ok o [.int .i64 W] [.int .i64 H] l (crn W H) hl (fun i hi => crn1_y _ W H (hs i hi) hz)
  have h1 := fun w => vcheck_y W H w hz
  refine EW.ctEnter [10, 20, 30, 40, 50, 60, 70, 80, 90, 100, 110, 120, 130, 140, 150, 160, 170, 180, 190, 200, 210, 220, 230, 240, 250, 260, 270, 280, 290, 300, 310, 320, 330, 340, 350, 360, 370, 380, 390, 400, 410, 420, 430, 440, 450, 460, 470, 480, 490, 500, 510, 520, 530, 540, 550, 560, 570, 580, 590, 600] Try.func17 rfl Try.ntmps17 rfl (by (((repeat (first | exact EW.NL.emp | (refine EW.NL.upd ?_ rfl) | refine EW.NL.drp ?_ | refine EW.NL.hp ?_ | refine EW.NL.argS ?_ | refine EW.NL.mix ?_)); (first | done | fail)))) ?_; intro w0 tch ini R hR
  all_goals try (refine EW.nm ?_)
  all_goals try ((first | refine EW.eRegL (id := 0) ?_ | refine EW.eReg (id := 0) ?_); refine EW.eBox ?_; refine EW.eBox ?_; refine EW.eAssign ?_; refine EW.eAssign ?_; refine EW.eEnd ?_; (try refine EW.nm ?_))
  all_goals try ((first | refine EW.eRegL (id := 1) ?_ | refine EW.eReg (id := 1) ?_); refine EW.eLoad1 ?_; refine EW.eLoad1 ?_; refine EW.eCall Try.call20 (fun w => h1 w) ?_; refine EW.eAssign ?_; refine EW.eEnd ?_; (try refine EW.nm ?_))
  all_goals try ((first | refine EW.eRegL (id := 2) ?_ | refine EW.eReg (id := 2) ?_); refine EW.eMove ?_; refine EW.eNeq ?_; refine EW.eEnd ?_; (try refine EW.nm ?_))
  all_goals try (first | refine EW.eYes (x := Operand.tmp 13) ?_ | refine EW.eNo (x := Operand.tmp 13) ?_ | (refine EW.eCond (x := Operand.tmp 13) ?_ ?_ <;> (intro hb hb'; (try dsimp only at hb'); (try (exfalso; first | omega | with_reducible exact absurd rfl hb')))))
  all_goals try (refine EW.nm ?_)
  all_goals try ((first | refine EW.eRegL (id := 3) ?_ | refine EW.eReg (id := 3) ?_); refine EW.eMove ?_; refine EW.eAssign ?_; refine EW.eAssign ?_; refine EW.eEnd ?_; (try refine EW.nm ?_))
  all_goals try (with_reducible refine EW.parkK ?_)
  all_goals (refine EW.eToW 10 true [.int .i64 W] ?_; refine EW.eToW 20 true [.int .i64 H] ?_)
  all_goals try ((first | refine EW.eRegL (id := 4) ?_ | refine EW.eReg (id := 4) ?_); refine EW.eMove ?_; refine EW.eFunc ?_; refine EW.eCallN [0, 10, 20] Try.call34 (hA) ?_; (first | refine EW.eExtC ?_ | refine EW.eExtA ?_); (first | refine EW.eExtC ?_ | refine EW.eExtA ?_); refine EW.eAssign ?_; refine EW.eAssign ?_; refine EW.eEnd ?_; (try refine EW.nm ?_))
  all_goals try (with_reducible refine EW.parkK ?_)
  all_goals try (refine EW.Park.mk ?_)
  all_goals (refine EW.eLeaveN [30] hR (by first | exact .inl rfl | exact .inr rfl) (by rfl) (by rfl) ?_ ?_ rfl rfl (by (((repeat (first | exact EW.NL.emp | (refine EW.NL.upd ?_ rfl) | refine EW.NL.drp ?_ | refine EW.NL.hp ?_ | refine EW.NL.argS ?_ | refine EW.NL.mix ?_)); (first | done | fail)))) rfl rfl; rotate_left 1; (· ((repeat (first | exact EW.atE.nil | refine EW.atE.lt rfl ?_ | refine EW.atE.lf ?_ | refine EW.atE.b rfl EW.SameB.refl ?_ | (refine EW.atE.b rfl ?_ ?_; rotate_left 1))))))
  all_goals rfl
end Go.Proofs.Ythclhmdgfekaeaa
