/- image: one fragment is laid; near, either way about. -/
import Derived.Test.YtflgamohploalaaHImR
import Derived.Test.YtflgamohploalaaHZK
namespace Go.Proofs.Ytflgamohploalaa
set_option linter.unusedSimpArgs false
set_option linter.unusedVariables false
open Go.RowKit EV
open SX (Wr Tv Qu Rm Sh Is conjP eqs_iff eqs_false)
open EW (PlL PlT PlV PlVs LfV Mm Bt Opn GV YT lpOf nums)
set_option maxRecDepth 20000
theorem ialive (w : World) : Calls Try.prog 39 #[] w fun e w' => e = .returned (.bool true) ∧ Below w.heap.size w w' :=
  EV.calls_plain enters EV.noX_ok (fuel := 1000) (us := []) (by kernel_rfl) w
theorem Px.near_comm (a b : Px) : a.near b = b.near a := by
  rw [Px.near_eq, Px.near_eq]
  by_cases h : b.ahead a
  · rw [if_pos h, if_neg (Px.ahead_asymm h)]
  · rw [if_neg h]
    by_cases h' : a.ahead b
    · rw [if_pos h']
    · rw [if_neg h']; exact (Px.ahead_total h' h)
theorem px_eq {a b : Px} (h : a = b) : a.z = b.z ∧ a.o = b.o ∧ a.t = b.t ∧ a.c = b.c := by subst h; exact ⟨rfl, rfl, rfl, rfl⟩
abbrev fcl (f : Fg) : List C := [.v (.int .i64 f.x), .v (.int .i64 f.y), .v (.int .u32 f.p.z), .v (.int .i64 f.p.o), .v (.int .i64 f.p.t), .v (.int .u32 f.p.c)]
noncomputable def WO1 (o : Bool) (l : List Px) (f : Fg) : Ws := [(.l 0, .l true), (.b 0, .b (.w o (pvs l))), (.l 1, .l true), (.b 1, .b (.m true (fcl f)))]
abbrev Lay1R (o : Bool) (l : List Px) (f : Fg) (w h w' h' : Int) (r : List Px) (e : Int) : Prop := CT Try.prog 35 [.a (imC 0 w h l.length), .c (.s 1 0 1 1)] (upd EW.emp (WO1 o l f)) 2 3 (.t [.inr (imC 2 w' h' r.length), .inl (.v (.int .i64 e))]) (upd (upd EW.emp (WO1 o l f)) [(.l 2, .l true), (.b 2, .b (.w true (pvs r)))])
theorem lay1_bad (o : Bool) (l : List Px) (f : Fg) (w h : Int) (hl : l.length ≤ 10000) (hno : ¬ (imOk w h l ∧ fgOk w h f)) : Lay1R o l f w h 0 0 [] 140 := by
  by_cases hi : imOk w h l
  · have hC := icheck_y o l w h hi
    have h4 := im_len hi
    have hK := pclone_any o l (by omega)
    obtain ⟨st, dt, is, hSt, _, hst, _⟩ := slot_e o l w h f.x f.y
    obtain ⟨qt, et, hOt, _, het⟩ := of_e f
    have hbad : ¬ (is = true ∧ et = 0) := fun x => hno ⟨hi, hst.1 x.1, het.1 x.2⟩
    clear hi hst het hno
    cases is
    all_goals
      (simp only [Bool.false_eq_true, false_and, not_false_eq_true, true_and] at hbad)
      refine EW.ctEnter [10, 20, 30, 40, 50, 60, 70, 80, 90, 100, 110, 120, 130, 140, 150, 160, 170, 180, 190, 200, 210, 220, 230, 240, 250, 260, 270, 280, 290, 300, 310, 320, 330, 340, 350, 360, 370, 380, 390, 400, 410, 420, 430, 440, 450, 460, 470, 480, 490, 500, 510, 520, 530, 540, 550, 560, 570, 580, 590, 600] Try.func35 rfl Try.ntmps35 rfl (by (((repeat (first | exact EW.NL.emp | (refine EW.NL.upd ?_ rfl) | refine EW.NL.drp ?_ | refine EW.NL.hp ?_ | refine EW.NL.argS ?_ | refine EW.NL.mix ?_)); (first | done | fail)))) ?_; intro w0 tch ini R hR
      all_goals try (refine EW.nm ?_)
      all_goals try ((first | refine EW.eRegL (id := 0) ?_ | refine EW.eReg (id := 0) ?_); refine EW.eBox ?_; refine EW.eAlloc ?_; refine EW.eAssign ?_; refine EW.eEnd ?_; (try refine EW.nm ?_))
      all_goals try ((first | refine EW.eRegL (id := 1) ?_ | refine EW.eReg (id := 1) ?_); refine EW.eLoadA (k := 3) ?_; refine EW.eCallN [0] Try.call34 (hC) ?_; refine EW.eAssign ?_; refine EW.eEnd ?_; (try refine EW.nm ?_))
      all_goals try ((first | refine EW.eRegL (id := 2) ?_ | refine EW.eReg (id := 2) ?_); refine EW.eMove ?_; refine EW.eNeq ?_; refine EW.eEnd ?_; (try refine EW.nm ?_))
      all_goals try (first | refine EW.eYes (x := Operand.tmp 17) ?_ | refine EW.eNo (x := Operand.tmp 17) ?_ | (refine EW.eCond (x := Operand.tmp 17) ?_ ?_ <;> (intro hb hb'; (try dsimp only at hb'); (try (exfalso; first | omega | with_reducible exact absurd rfl hb')))))
      all_goals try (refine EW.nm ?_)
      all_goals try ((first | refine EW.eRegL (id := 3) ?_ | refine EW.eReg (id := 3) ?_); refine EW.eBuild (place := fun i => [(0, 1), (1, 1), (2, 1)][i]?) ?_; refine EW.eMove ?_; (first | refine EW.eStoreW (k := 3) ?_ | refine EW.eStore (k := 3) ?_); refine EW.eAssign ?_; refine EW.eEnd ?_; (try refine EW.nm ?_))
      all_goals try (with_reducible refine EW.parkK ?_)
      all_goals try ((first | refine EW.eRegL (id := 4) ?_ | refine EW.eReg (id := 4) ?_); refine EW.eFieldAddr (k := 1) ?_; refine EW.eLoad1 ?_; refine EW.eCallN [0] Try.call47 (hK) ?_; refine EW.eAssign ?_; refine EW.eEnd ?_; (try refine EW.nm ?_))
      all_goals try ((first | refine EW.eRegL (id := 5) ?_ | refine EW.eReg (id := 5) ?_); refine EW.eMove ?_; (first | refine EW.eLenS ?_ | refine EW.eLenG ?_ | refine EW.eLenN ?_); refine EW.eMove ?_; refine EW.eEnd ?_; (try refine EW.nm ?_))
      all_goals try (refine EW.eUnroll 2 ?_)
      all_goals try (refine EW.nm ?_)
      iterate 2 (
        all_goals try ((first | refine EW.eRegL (id := 6) ?_ | refine EW.eReg (id := 6) ?_); refine EW.eLss ?_; refine EW.eEnd ?_; (try refine EW.nm ?_))
        all_goals try (first | refine EW.eYes (x := Operand.tmp 26) ?_ | refine EW.eNo (x := Operand.tmp 26) ?_ | (refine EW.eCond (x := Operand.tmp 26) ?_ ?_ <;> (intro hb hb'; (try dsimp only at hb'); (try (exfalso; first | omega | with_reducible exact absurd rfl hb')))))
        all_goals try (refine EW.nm ?_)
        all_goals try ((first | refine EW.eRegL (id := 7) ?_ | refine EW.eReg (id := 7) ?_); (first | refine EW.eIndexAddrS (z := 6) ?_ | refine EW.eIndexAddrG (z := 6) ?_); refine EW.eLoadA (k := 6) ?_; refine EW.eAlloc ?_; (first | refine EW.eStoreW (k := 6) ?_ | refine EW.eStore (k := 6) ?_); refine EW.eEnd ?_; (try refine EW.nm ?_))
        all_goals try ((first | refine EW.eRegL (id := 8) ?_ | refine EW.eReg (id := 8) ?_); refine EW.eLoadA (k := 3) ?_; refine EW.eFieldAddr (k := 1) ?_; refine EW.eLoad1 ?_; refine EW.eFieldAddr (k := 1) ?_; refine EW.eLoad1 ?_; refine EW.eCallN [0] Try.call31 (hSt) ?_; refine EW.eMove ?_; (first | refine EW.eExtC ?_ | refine EW.eExtA ?_); (first | refine EW.eExtC ?_ | refine EW.eExtA ?_); refine EW.eAssign ?_; refine EW.eAssign ?_; refine EW.eEnd ?_; (try refine EW.nm ?_))
        all_goals try ((first | refine EW.eRegL (id := 9) ?_ | refine EW.eReg (id := 9) ?_); refine EW.eLoadA (k := 6) ?_; refine EW.eCall Try.call40 (fun w => hOt w) ?_; refine EW.eMove ?_; (first | refine EW.eExtC ?_ | refine EW.eExtA ?_); (first | refine EW.eExtC ?_ | refine EW.eExtA ?_); refine EW.eAlloc ?_; (first | refine EW.eStoreW (k := 4) ?_ | refine EW.eStore (k := 4) ?_); refine EW.eAssign ?_; refine EW.eEnd ?_; (try refine EW.nm ?_))
        all_goals try ((first | refine EW.eRegL (id := 10) ?_ | refine EW.eReg (id := 10) ?_); refine EW.eMove ?_; refine EW.eNot ?_; refine EW.eMove ?_)
        all_goals try (refine EW.eGuard (j := 2) (o := ⟨some 46, _, _, _, _, _⟩) ?_ ?_ <;> (intro hb hb'; (try dsimp only at hb'); (try (exfalso; first | omega | with_reducible exact absurd rfl hb'))))
        all_goals try ((first | refine EW.eSkipF (j := 2) ?_ | refine EW.eSkipU (j := 2) ?_ | refine EW.eMove ?_); (first | refine EW.eSkipF (j := 2) ?_ | refine EW.eSkipU (j := 2) ?_ | refine EW.eNeq ?_); (first | refine EW.ePickT ?_ | refine EW.ePickF ?_); refine EW.eEnd ?_; (try refine EW.nm ?_))
        all_goals try (first | refine EW.eYes (x := Operand.tmp 48) ?_ | refine EW.eNo (x := Operand.tmp 48) ?_ | (refine EW.eCond (x := Operand.tmp 48) ?_ ?_ <;> (intro hb hb'; (try dsimp only at hb'); (try (exfalso; first | omega | with_reducible exact absurd rfl hb')))))
        all_goals try (refine EW.nm ?_)
        all_goals try ((first | refine EW.eRegL (id := 11) ?_ | refine EW.eReg (id := 11) ?_); refine EW.eBuild (place := fun i => [(0, 1), (1, 1), (2, 1)][i]?) ?_; (first | refine EW.eStoreW (k := 3) ?_ | refine EW.eStore (k := 3) ?_); refine EW.eAssign ?_; refine EW.eEnd ?_; (try refine EW.nm ?_))
        all_goals (try (refine EW.eNilBK 20 2 25 4 (l' := [.v (.int .i64 0), .v (.int .i64 0), .g 25 0 0 0 4]) ?_))
        all_goals try (with_reducible refine EW.parkK ?_)
        all_goals try ((first | refine EW.eRegL (id := 12) ?_ | refine EW.eReg (id := 12) ?_); refine EW.eMove ?_; refine EW.eMove ?_; refine EW.eMove ?_; refine EW.eMove ?_; (first | refine EW.eIndexAddrS (z := 4) ?_ | refine EW.eIndexAddrG (z := 4) ?_); refine EW.eLoadA (k := 4) ?_; refine EW.eLoadA (k := 4) ?_; fail "no contract of mullion/pixel.Near"; (first | refine EW.eIndexAddrS (z := 4) ?_ | refine EW.eIndexAddrG (z := 4) ?_); (first | refine EW.eStoreW (k := 4) ?_ | refine EW.eStore (k := 4) ?_); refine EW.eDraw ?_; (try refine EW.nm ?_))
        all_goals try ((first | refine EW.eRegL (id := 13) ?_ | refine EW.eReg (id := 13) ?_); refine EW.eAdd ?_; refine EW.eMove ?_; refine EW.eEnd ?_; (try refine EW.nm ?_)))
      all_goals try ((first | refine EW.eRegL (id := 14) ?_ | refine EW.eReg (id := 14) ?_); refine EW.eLoadA (k := 3) ?_; refine EW.eMove ?_; fail "no contract of mullion/image.with"; (first | refine EW.eStoreW (k := 3) ?_ | refine EW.eStore (k := 3) ?_); refine EW.eAssign ?_; refine EW.eEnd ?_; (try refine EW.nm ?_))
      all_goals try (with_reducible refine EW.parkK ?_)
      all_goals try (refine EW.Park.mk ?_)
    all_goals (refine EW.eLeaveN [25] hR (by first | exact .inl rfl | exact .inr rfl) (by rfl) (by rfl) ?_ ?_ rfl rfl (by (((repeat (first | exact EW.NL.emp | (refine EW.NL.upd ?_ rfl) | refine EW.NL.drp ?_ | refine EW.NL.hp ?_ | refine EW.NL.argS ?_ | refine EW.NL.mix ?_)); (first | done | fail)))) rfl rfl; rotate_left 1; (· ((repeat (first | exact EW.atE.nil | refine EW.atE.lt rfl ?_ | refine EW.atE.lf ?_ | refine EW.atE.b rfl EW.SameB.refl ?_ | (refine EW.atE.b rfl ?_ ?_; rotate_left 1))))))
    all_goals rfl
  · have hC := icheck_n o l w h hi hl
    clear hi hno
    refine EW.ctEnter [10, 20, 30, 40, 50, 60, 70, 80, 90, 100, 110, 120, 130, 140, 150, 160, 170, 180, 190, 200, 210, 220, 230, 240, 250, 260, 270, 280, 290, 300, 310, 320, 330, 340, 350, 360, 370, 380, 390, 400, 410, 420, 430, 440, 450, 460, 470, 480, 490, 500, 510, 520, 530, 540, 550, 560, 570, 580, 590, 600] Try.func35 rfl Try.ntmps35 rfl (by (((repeat (first | exact EW.NL.emp | (refine EW.NL.upd ?_ rfl) | refine EW.NL.drp ?_ | refine EW.NL.hp ?_ | refine EW.NL.argS ?_ | refine EW.NL.mix ?_)); (first | done | fail)))) ?_; intro w0 tch ini R hR
    all_goals try (refine EW.nm ?_)
    all_goals try ((first | refine EW.eRegL (id := 0) ?_ | refine EW.eReg (id := 0) ?_); refine EW.eBox ?_; refine EW.eAlloc ?_; refine EW.eAssign ?_; refine EW.eEnd ?_; (try refine EW.nm ?_))
    all_goals try ((first | refine EW.eRegL (id := 1) ?_ | refine EW.eReg (id := 1) ?_); refine EW.eLoadA (k := 3) ?_; refine EW.eCallN [0] Try.call34 (hC) ?_; refine EW.eAssign ?_; refine EW.eEnd ?_; (try refine EW.nm ?_))
    all_goals try ((first | refine EW.eRegL (id := 2) ?_ | refine EW.eReg (id := 2) ?_); refine EW.eMove ?_; refine EW.eNeq ?_; refine EW.eEnd ?_; (try refine EW.nm ?_))
    all_goals try (first | refine EW.eYes (x := Operand.tmp 17) ?_ | refine EW.eNo (x := Operand.tmp 17) ?_ | (refine EW.eCond (x := Operand.tmp 17) ?_ ?_ <;> (intro hb hb'; (try dsimp only at hb'); (try (exfalso; first | omega | with_reducible exact absurd rfl hb')))))
    all_goals try (refine EW.nm ?_)
    all_goals try ((first | refine EW.eRegL (id := 3) ?_ | refine EW.eReg (id := 3) ?_); refine EW.eBuild (place := fun i => [(0, 1), (1, 1), (2, 1)][i]?) ?_; refine EW.eMove ?_; (first | refine EW.eStoreW (k := 3) ?_ | refine EW.eStore (k := 3) ?_); refine EW.eAssign ?_; refine EW.eEnd ?_; (try refine EW.nm ?_))
    all_goals try (refine EW.eNilBK 20 2 25 4 (l' := [.v (.int .i64 0), .v (.int .i64 0), .g 25 0 0 0 4]) ?_)
    all_goals try (with_reducible refine EW.parkK ?_)
    all_goals try ((first | refine EW.eRegL (id := 4) ?_ | refine EW.eReg (id := 4) ?_); refine EW.eFieldAddr (k := 1) ?_; refine EW.eLoad1 ?_; fail "no contract of slices.Clone[[]mullion/api.Pixel,mullion/api.Pixel]"; refine EW.eAssign ?_; refine EW.eEnd ?_; (try refine EW.nm ?_))
    all_goals try ((first | refine EW.eRegL (id := 5) ?_ | refine EW.eReg (id := 5) ?_); refine EW.eMove ?_; (first | refine EW.eLenS ?_ | refine EW.eLenG ?_ | refine EW.eLenN ?_); refine EW.eMove ?_; refine EW.eEnd ?_; (try refine EW.nm ?_))
    all_goals try (refine EW.eUnroll 6 ?_)
    all_goals try (refine EW.nm ?_)
    iterate 6 (
      all_goals try ((first | refine EW.eRegL (id := 6) ?_ | refine EW.eReg (id := 6) ?_); refine EW.eLss ?_; refine EW.eEnd ?_; (try refine EW.nm ?_))
      all_goals try (first | refine EW.eYes (x := Operand.tmp 26) ?_ | refine EW.eNo (x := Operand.tmp 26) ?_ | (refine EW.eCond (x := Operand.tmp 26) ?_ ?_ <;> (intro hb hb'; (try dsimp only at hb'); (try (exfalso; first | omega | with_reducible exact absurd rfl hb')))))
      all_goals try (refine EW.nm ?_)
      all_goals try ((first | refine EW.eRegL (id := 7) ?_ | refine EW.eReg (id := 7) ?_); (first | refine EW.eIndexAddrS (z := 6) ?_ | refine EW.eIndexAddrG (z := 6) ?_); refine EW.eLoadA (k := 6) ?_; refine EW.eAlloc ?_; (first | refine EW.eStoreW (k := 6) ?_ | refine EW.eStore (k := 6) ?_); refine EW.eEnd ?_; (try refine EW.nm ?_))
      all_goals try ((first | refine EW.eRegL (id := 8) ?_ | refine EW.eReg (id := 8) ?_); refine EW.eLoadA (k := 3) ?_; refine EW.eFieldAddr (k := 1) ?_; refine EW.eLoad1 ?_; refine EW.eFieldAddr (k := 1) ?_; refine EW.eLoad1 ?_; fail "no contract of mullion/image.Slot"; refine EW.eMove ?_; (first | refine EW.eExtC ?_ | refine EW.eExtA ?_); (first | refine EW.eExtC ?_ | refine EW.eExtA ?_); refine EW.eAssign ?_; refine EW.eAssign ?_; refine EW.eEnd ?_; (try refine EW.nm ?_))
      all_goals try ((first | refine EW.eRegL (id := 9) ?_ | refine EW.eReg (id := 9) ?_); refine EW.eLoadA (k := 6) ?_; fail "no contract of mullion/pixel.Of"; refine EW.eMove ?_; (first | refine EW.eExtC ?_ | refine EW.eExtA ?_); (first | refine EW.eExtC ?_ | refine EW.eExtA ?_); refine EW.eAlloc ?_; (first | refine EW.eStoreW (k := 4) ?_ | refine EW.eStore (k := 4) ?_); refine EW.eAssign ?_; refine EW.eEnd ?_; (try refine EW.nm ?_))
      all_goals try ((first | refine EW.eRegL (id := 10) ?_ | refine EW.eReg (id := 10) ?_); refine EW.eMove ?_; refine EW.eNot ?_; refine EW.eMove ?_)
      all_goals try (refine EW.eGuard (j := 2) (o := ⟨some 46, _, _, _, _, _⟩) ?_ ?_ <;> (intro hb hb'; (try dsimp only at hb'); (try (exfalso; first | omega | with_reducible exact absurd rfl hb'))))
      all_goals try ((first | refine EW.eSkipF (j := 2) ?_ | refine EW.eSkipU (j := 2) ?_ | refine EW.eMove ?_); (first | refine EW.eSkipF (j := 2) ?_ | refine EW.eSkipU (j := 2) ?_ | refine EW.eNeq ?_); (first | refine EW.ePickT ?_ | refine EW.ePickF ?_); refine EW.eEnd ?_; (try refine EW.nm ?_))
      all_goals try (first | refine EW.eYes (x := Operand.tmp 48) ?_ | refine EW.eNo (x := Operand.tmp 48) ?_ | (refine EW.eCond (x := Operand.tmp 48) ?_ ?_ <;> (intro hb hb'; (try dsimp only at hb'); (try (exfalso; first | omega | with_reducible exact absurd rfl hb')))))
      all_goals try (refine EW.nm ?_)
      all_goals try ((first | refine EW.eRegL (id := 11) ?_ | refine EW.eReg (id := 11) ?_); refine EW.eBuild (place := fun i => [(0, 1), (1, 1), (2, 1)][i]?) ?_; (first | refine EW.eStoreW (k := 3) ?_ | refine EW.eStore (k := 3) ?_); refine EW.eAssign ?_; refine EW.eEnd ?_; (try refine EW.nm ?_))
      all_goals try (with_reducible refine EW.parkK ?_)
      all_goals try ((first | refine EW.eRegL (id := 12) ?_ | refine EW.eReg (id := 12) ?_); refine EW.eMove ?_; refine EW.eMove ?_; refine EW.eMove ?_; refine EW.eMove ?_; (first | refine EW.eIndexAddrS (z := 4) ?_ | refine EW.eIndexAddrG (z := 4) ?_); refine EW.eLoadA (k := 4) ?_; refine EW.eLoadA (k := 4) ?_; fail "no contract of mullion/pixel.Near"; (first | refine EW.eIndexAddrS (z := 4) ?_ | refine EW.eIndexAddrG (z := 4) ?_); (first | refine EW.eStoreW (k := 4) ?_ | refine EW.eStore (k := 4) ?_); refine EW.eDraw ?_; (try refine EW.nm ?_))
      all_goals try ((first | refine EW.eRegL (id := 13) ?_ | refine EW.eReg (id := 13) ?_); refine EW.eAdd ?_; refine EW.eMove ?_; refine EW.eEnd ?_; (try refine EW.nm ?_)))
    all_goals try ((first | refine EW.eRegL (id := 14) ?_ | refine EW.eReg (id := 14) ?_); refine EW.eLoadA (k := 3) ?_; refine EW.eMove ?_; fail "no contract of mullion/image.with"; (first | refine EW.eStoreW (k := 3) ?_ | refine EW.eStore (k := 3) ?_); refine EW.eAssign ?_; refine EW.eEnd ?_; (try refine EW.nm ?_))
    all_goals try (with_reducible refine EW.parkK ?_)
    all_goals try (refine EW.Park.mk ?_)
    all_goals (refine EW.eLeaveN [25] hR (by first | exact .inl rfl | exact .inr rfl) (by rfl) (by rfl) ?_ ?_ rfl rfl (by (((repeat (first | exact EW.NL.emp | (refine EW.NL.upd ?_ rfl) | refine EW.NL.drp ?_ | refine EW.NL.hp ?_ | refine EW.NL.argS ?_ | refine EW.NL.mix ?_)); (first | done | fail)))) rfl rfl; rotate_left 1; (· ((repeat (first | exact EW.atE.nil | refine EW.atE.lt rfl ?_ | refine EW.atE.lf ?_ | refine EW.atE.b rfl EW.SameB.refl ?_ | (refine EW.atE.b rfl ?_ ?_; rotate_left 1))))))
    all_goals rfl
theorem lay1_len (w : Int) (l : List Px) (f : Fg) : (lay1 w l f).length = l.length := by unfold lay1; rw [List.length_set]
theorem lay1_y (o : Bool) (l : List Px) (f : Fg) (w h : Int) (hi : imOk w h l) (hs : fgOk w h f) : Lay1R o l f w h w h (lay1 w l f) 0 := by
  have hC := icheck_y o l w h hi
  have h4 := im_len hi
  have hK := pclone_any o l (by omega)
  have hll := lay1_len w l f
  have hT := with_ctk o true l (lay1 w l f) w h l.length hll
  obtain ⟨ha1, ha2⟩ := fat_is hi hs.1
  have hSl := islot_y o l w h f.x f.y hs.1
  rw [ha1] at hSl
  have hOt := of_y f hs.2
  have hNr := pnear (l.getD (fat w f) Px.zero) f.p
  unfold Lay1R
  rw [hll]
  unfold lay1 at hT ⊢
  generalize fat w f = at9 at *
  obtain ⟨q, hq⟩ : ∃ q, (l.getD at9 Px.zero).near f.p = q := ⟨_, rfl⟩
  rw [hq] at hNr hT ⊢
  clear hi hs
  refine EW.ctEnter [10, 20, 30, 40, 50, 60, 70, 80, 90, 100, 110, 120, 130, 140, 150, 160, 170, 180, 190, 200, 210, 220, 230, 240, 250, 260, 270, 280, 290, 300, 310, 320, 330, 340, 350, 360, 370, 380, 390, 400, 410, 420, 430, 440, 450, 460, 470, 480, 490, 500, 510, 520, 530, 540, 550, 560, 570, 580, 590, 600] Try.func35 rfl Try.ntmps35 rfl (by (((repeat (first | exact EW.NL.emp | (refine EW.NL.upd ?_ rfl) | refine EW.NL.drp ?_ | refine EW.NL.hp ?_ | refine EW.NL.argS ?_ | refine EW.NL.mix ?_)); (first | done | fail)))) ?_; intro w0 tch ini R hR
  all_goals try (refine EW.nm ?_)
  all_goals try ((first | refine EW.eRegL (id := 0) ?_ | refine EW.eReg (id := 0) ?_); refine EW.eBox ?_; refine EW.eAlloc ?_; refine EW.eAssign ?_; refine EW.eEnd ?_; (try refine EW.nm ?_))
  all_goals try ((first | refine EW.eRegL (id := 1) ?_ | refine EW.eReg (id := 1) ?_); refine EW.eLoadA (k := 3) ?_; refine EW.eCallN [0] Try.call34 (hC) ?_; refine EW.eAssign ?_; refine EW.eEnd ?_; (try refine EW.nm ?_))
  all_goals try ((first | refine EW.eRegL (id := 2) ?_ | refine EW.eReg (id := 2) ?_); refine EW.eMove ?_; refine EW.eNeq ?_; refine EW.eEnd ?_; (try refine EW.nm ?_))
  all_goals try (first | refine EW.eYes (x := Operand.tmp 17) ?_ | refine EW.eNo (x := Operand.tmp 17) ?_ | (refine EW.eCond (x := Operand.tmp 17) ?_ ?_ <;> (intro hb hb'; (try dsimp only at hb'); (try (exfalso; first | omega | with_reducible exact absurd rfl hb')))))
  all_goals try (refine EW.nm ?_)
  all_goals try ((first | refine EW.eRegL (id := 3) ?_ | refine EW.eReg (id := 3) ?_); refine EW.eBuild (place := fun i => [(0, 1), (1, 1), (2, 1)][i]?) ?_; refine EW.eMove ?_; (first | refine EW.eStoreW (k := 3) ?_ | refine EW.eStore (k := 3) ?_); refine EW.eAssign ?_; refine EW.eEnd ?_; (try refine EW.nm ?_))
  all_goals try (with_reducible refine EW.parkK ?_)
  all_goals try ((first | refine EW.eRegL (id := 4) ?_ | refine EW.eReg (id := 4) ?_); refine EW.eFieldAddr (k := 1) ?_; refine EW.eLoad1 ?_; refine EW.eCallN [0] Try.call47 (hK) ?_; refine EW.eAssign ?_; refine EW.eEnd ?_; (try refine EW.nm ?_))
  all_goals try ((first | refine EW.eRegL (id := 5) ?_ | refine EW.eReg (id := 5) ?_); refine EW.eMove ?_; (first | refine EW.eLenS ?_ | refine EW.eLenG ?_ | refine EW.eLenN ?_); refine EW.eMove ?_; refine EW.eEnd ?_; (try refine EW.nm ?_))
  all_goals try (refine EW.eUnroll 2 ?_)
  all_goals try (refine EW.nm ?_)
  iterate 2 (
    all_goals try ((first | refine EW.eRegL (id := 6) ?_ | refine EW.eReg (id := 6) ?_); refine EW.eLss ?_; refine EW.eEnd ?_; (try refine EW.nm ?_))
    all_goals try (first | refine EW.eYes (x := Operand.tmp 26) ?_ | refine EW.eNo (x := Operand.tmp 26) ?_ | (refine EW.eCond (x := Operand.tmp 26) ?_ ?_ <;> (intro hb hb'; (try dsimp only at hb'); (try (exfalso; first | omega | with_reducible exact absurd rfl hb')))))
    all_goals try (refine EW.nm ?_)
    all_goals try ((first | refine EW.eRegL (id := 7) ?_ | refine EW.eReg (id := 7) ?_); (first | refine EW.eIndexAddrS (z := 6) ?_ | refine EW.eIndexAddrG (z := 6) ?_); refine EW.eLoadA (k := 6) ?_; refine EW.eAlloc ?_; (first | refine EW.eStoreW (k := 6) ?_ | refine EW.eStore (k := 6) ?_); refine EW.eEnd ?_; (try refine EW.nm ?_))
    all_goals try ((first | refine EW.eRegL (id := 8) ?_ | refine EW.eReg (id := 8) ?_); refine EW.eLoadA (k := 3) ?_; refine EW.eFieldAddr (k := 1) ?_; refine EW.eLoad1 ?_; refine EW.eFieldAddr (k := 1) ?_; refine EW.eLoad1 ?_; refine EW.eCallN [0] Try.call31 (hSl) ?_; refine EW.eMove ?_; (first | refine EW.eExtC ?_ | refine EW.eExtA ?_); (first | refine EW.eExtC ?_ | refine EW.eExtA ?_); refine EW.eAssign ?_; refine EW.eAssign ?_; refine EW.eEnd ?_; (try refine EW.nm ?_))
    all_goals try ((first | refine EW.eRegL (id := 9) ?_ | refine EW.eReg (id := 9) ?_); refine EW.eLoadA (k := 6) ?_; refine EW.eCall Try.call40 (fun w => hOt w) ?_; refine EW.eMove ?_; (first | refine EW.eExtC ?_ | refine EW.eExtA ?_); (first | refine EW.eExtC ?_ | refine EW.eExtA ?_); refine EW.eAlloc ?_; (first | refine EW.eStoreW (k := 4) ?_ | refine EW.eStore (k := 4) ?_); refine EW.eAssign ?_; refine EW.eEnd ?_; (try refine EW.nm ?_))
    all_goals try ((first | refine EW.eRegL (id := 10) ?_ | refine EW.eReg (id := 10) ?_); refine EW.eMove ?_; refine EW.eNot ?_; refine EW.eMove ?_)
    all_goals try (refine EW.eGuard (j := 2) (o := ⟨some 46, _, _, _, _, _⟩) ?_ ?_ <;> (intro hb hb'; (try dsimp only at hb'); (try (exfalso; first | omega | with_reducible exact absurd rfl hb'))))
    all_goals try ((first | refine EW.eSkipF (j := 2) ?_ | refine EW.eSkipU (j := 2) ?_ | refine EW.eMove ?_); (first | refine EW.eSkipF (j := 2) ?_ | refine EW.eSkipU (j := 2) ?_ | refine EW.eNeq ?_); (first | refine EW.ePickT ?_ | refine EW.ePickF ?_); refine EW.eEnd ?_; (try refine EW.nm ?_))
    all_goals try (first | refine EW.eYes (x := Operand.tmp 48) ?_ | refine EW.eNo (x := Operand.tmp 48) ?_ | (refine EW.eCond (x := Operand.tmp 48) ?_ ?_ <;> (intro hb hb'; (try dsimp only at hb'); (try (exfalso; first | omega | with_reducible exact absurd rfl hb')))))
    all_goals try (refine EW.nm ?_)
    all_goals try ((first | refine EW.eRegL (id := 11) ?_ | refine EW.eReg (id := 11) ?_); refine EW.eBuild (place := fun i => [(0, 1), (1, 1), (2, 1)][i]?) ?_; (first | refine EW.eStoreW (k := 3) ?_ | refine EW.eStore (k := 3) ?_); refine EW.eAssign ?_; refine EW.eEnd ?_; (try refine EW.nm ?_))
    all_goals try (with_reducible refine EW.parkK ?_)
    all_goals try ((first | refine EW.eRegL (id := 12) ?_ | refine EW.eReg (id := 12) ?_); refine EW.eMove ?_; refine EW.eMove ?_; refine EW.eMove ?_; refine EW.eMove ?_; (first | refine EW.eIndexAddrS (z := 4) ?_ | refine EW.eIndexAddrG (z := 4) ?_); refine EW.eLoadA (k := 4) ?_; refine EW.eLoadA (k := 4) ?_; refine EW.eCall Try.call41 (fun w => hNr w) ?_; (first | refine EW.eIndexAddrS (z := 4) ?_ | refine EW.eIndexAddrG (z := 4) ?_); (first | refine EW.eStoreW (k := 4) ?_ | refine EW.eStore (k := 4) ?_); refine EW.eDraw ?_; (try refine EW.nm ?_))
    all_goals try ((first | refine EW.eRegL (id := 13) ?_ | refine EW.eReg (id := 13) ?_); refine EW.eAdd ?_; refine EW.eMove ?_; refine EW.eEnd ?_; (try refine EW.nm ?_)))
  all_goals try ((first | refine EW.eRegL (id := 14) ?_ | refine EW.eReg (id := 14) ?_); refine EW.eLoadA (k := 3) ?_; refine EW.eMove ?_; refine EW.eCallN [0, 40] Try.call49 (hT) ?_; (first | refine EW.eStoreW (k := 3) ?_ | refine EW.eStore (k := 3) ?_); refine EW.eAssign ?_; refine EW.eEnd ?_; (try refine EW.nm ?_))
  all_goals try (with_reducible refine EW.parkK ?_)
  all_goals try (refine EW.Park.mk ?_)
  all_goals (refine EW.eLeaveN [40] hR (by first | exact .inl rfl | exact .inr rfl) (by rfl) (by rfl) ?_ ?_ rfl rfl (by (((repeat (first | exact EW.NL.emp | (refine EW.NL.upd ?_ rfl) | refine EW.NL.drp ?_ | refine EW.NL.hp ?_ | refine EW.NL.argS ?_ | refine EW.NL.mix ?_)); (first | done | fail)))) rfl rfl; rotate_left 1; (· ((repeat (first | exact EW.atE.nil | refine EW.atE.lt rfl ?_ | refine EW.atE.lf ?_ | refine EW.atE.b rfl EW.SameB.refl ?_ | (refine EW.atE.b rfl ?_ ?_; rotate_left 1))))))
  all_goals rfl
theorem lay1_at {w : Int} {l : List Px} {f : Fg} {k : Nat} (ha : fat w f < l.length) : (k = fat w f → (lay1 w l f).getD k Px.zero = f.p.near (l.getD k Px.zero)) ∧ (k ≠ fat w f → (lay1 w l f).getD k Px.zero = l.getD k Px.zero) := by
  unfold lay1
  rw [set_at ha]
  refine ⟨fun h => ?_, fun h => by rw [if_neg h]⟩
  rw [if_pos h, Px.near_comm, h]
end Go.Proofs.Ytflgamohploalaa
