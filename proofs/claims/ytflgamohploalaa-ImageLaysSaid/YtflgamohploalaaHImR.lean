/- image: Lay where it fails; the document's Lay. -/
import Derived.Test.YtflgamohploalaaHImQ
namespace Go.Proofs.Ytflgamohploalaa
set_option linter.unusedSimpArgs false
set_option linter.unusedVariables false
open Go.RowKit EV
open SX (Wr Tv Qu Rm Sh Is conjP eqs_iff eqs_false)
open EW (PlL PlT PlV PlVs LfV Mm Bt Opn GV YT lpOf nums)
set_option maxRecDepth 20000
/-- A place: its slot, told twice. -/
theorem slot_e (o : Bool) (l : List Px) (w h a b : Int) : ∃ (s d : Int) (is : Bool), CT Try.prog 31 [.a (imC 0 w h l.length), .c (.v (.int .i64 a)), .c (.v (.int .i64 b))] (upd EW.emp (WP o l)) 1 1 (.t [.inl (.v (.int .i64 s)), .inl (.v (.bool is))]) (upd (upd EW.emp (WP o l)) []) ∧ (∀ o, CT Try.prog 32 [.a (imC 0 w h l.length), .c (.v (.int .i64 a)), .c (.v (.int .i64 b))] (upd EW.emp (WP o l)) 1 1 (.c (.v (.int .i64 d))) (upd (upd EW.emp (WP o l)) [])) ∧ (is = true ↔ inIm w h a b) ∧ (0 ≤ d ↔ inIm w h a b) ∧ s = max d 0 ∧ -1 ≤ d ∧ d ≤ 4096 := by
  by_cases hi : inIm w h a b
  · have := slot_bound hi
    exact ⟨_, _, true, islot_y o l w h a b hi, fun o => dslot_y o l w h a b hi, ⟨fun _ => hi, fun _ => rfl⟩, ⟨fun _ => hi, fun _ => by omega⟩, by omega, by omega, by omega⟩
  · exact ⟨0, -1, false, islot_n o l w h a b hi, fun o => dslot_n o l w h a b hi, ⟨fun h => (by cases h), fun h => absurd h hi⟩, ⟨fun h => (by omega), fun h => absurd h hi⟩, by omega, by omega, by omega⟩
set_option maxHeartbeats 2000000 in
theorem ilay_bad2 (o o' : Bool) (l : List Px) (fs : List Fg) (w h : Int) (t : Nat) (hi : imOk w h l) (hf : fs.length ≤ 1000) (ht : t < fs.length) (hs : ∀ i, i < t → fgOk w h (fs.getD i Fg.zero)) (hno : ¬ fgOk w h (fs.getD t Fg.zero)) : LayR 35 o o' l fs w h 0 0 [] 140 := by
  have hC := icheck_y o l w h hi
  have h4 := im_len hi
  have hK := pclone_any o l (by omega)
  have hat := fun i (h : i < t) => fat_is hi (hs i h).1
  obtain ⟨st, dt, is, hSt, _, hst, _⟩ := slot_e o l w h (fs.getD t Fg.zero).x (fs.getD t Fg.zero).y
  obtain ⟨qt, et, hOt, _, het⟩ := of_e (fs.getD t Fg.zero)
  have hbad : ¬ (is = true ∧ et = 0) := fun x => hno ⟨hst.1 x.1, het.1 x.2⟩
  clear hi hst het hno
  cases is
  all_goals
    (simp only [Bool.false_eq_true, false_and, not_false_eq_true, true_and] at hbad)
    refine EW.ctEnter [10, 20, 30, 40, 50, 60, 70, 80, 90, 100, 110, 120, 130, 140, 150, 160, 170, 180, 190, 200, 210, 220, 230, 240, 250, 260, 270, 280, 290, 300, 310, 320, 330, 340, 350, 360, 370, 380, 390, 400, 410, 420, 430, 440, 450, 460, 470, 480, 490, 500, 510, 520, 530, 540, 550, 560, 570, 580, 590, 600] Try.func35 rfl Try.ntmps35 rfl (by (((repeat (first | exact EW.NL.emp | (refine EW.NL.upd ?_ rfl) | refine EW.NL.drp ?_ | refine EW.NL.hp ?_ | refine EW.NL.argS ?_ | refine EW.NL.mix ?_)); (first | done | fail)))) ?_; intro w0 tch ini R hR
    all_goals try (refine EW.nm ?_)
    all_goals try ((first | refine EW.eRegL (id := 0) ?_ | refine EW.eReg (id := 0) ?_); refine EW.eBox ?_; refine EW.eAlloc ?_; refine EW.eAssign ?_; refine EW.eEnd ?_; (try refine EW.nm ?_))
    all_goals try ((first | refine EW.eRegL (id := 1) ?_ | refine EW.eReg (id := 1) ?_); refine EW.eLoadA (k := 3) ?_; refine EW.eCallN [0] Try.call34 (hC) ?_; refine EW.eAssign ?_; refine EW.eEnd ?_; (try refine EW.nm ?_))
    all_goals try ((first | refine EW.eRegL (id := 2) ?_ | refine EW.eReg (id := 2) ?_); refine EW.eMove ?_; refine EW.eNeq ?_; refine EW.eEnd ?_; (try refine EW.nm ?_))
    all_goals try (first | refine EW.eYes (x := Operand.tmp 17) ?_ | refine EW.eNo (x := Operand.tmp 17) ?_ | (refine EW.eCond (x := Operand.tmp 17) ?_ ?_ <;> (intro hb hb'; (try dsimp only at hb'); (try (exfalso; first | omega | with_reducible exact absurd rfl hb')))))
    all_goals try (refine EW.nm ?_)
    all_goals try ((first | refine EW.eRegL (id := 3) ?_ | refine EW.eReg (id := 3) ?_); refine EW.eBuild (place := fun i => [(0, 1), (1, 1), (2, 1)][i]?) ?_; refine EW.eMove ?_; (first | refine EW.eStoreW (k := 3) ?_ | refine EW.eStore (k := 3) ?_); refine EW.eAssign ?_; refine EW.eEnd ?_; (try refine EW.nm ?_))
    all_goals try (with_reducible refine EW.parkK ?_)
    all_goals try ((first | refine EW.eRegL (id := 4) ?_ | refine EW.eReg (id := 4) ?_); refine EW.eFieldAddr (k := 1) ?_; refine EW.eLoad1 ?_; refine EW.eCallN [0] Try.call47 (hK) ?_; refine EW.eAssign ?_; refine EW.eEnd ?_; (try refine EW.nm ?_))
    all_goals try ((first | refine EW.eRegL (id := 5) ?_ | refine EW.eReg (id := 5) ?_); refine EW.eMove ?_; (first | refine EW.eLenS ?_ | refine EW.eLenG ?_ | refine EW.eLenN ?_); refine EW.eMove ?_; refine EW.eEnd ?_; (try refine EW.nm ?_))
    all_goals first | (fail_if_success (refine EW.eUnroll 1 ?_)) | (refine EW.eLoopD [1000040, 5, 9, 10, 11, 12, 13, 25, 26, 27, 28, 29, 30, 31, 32, 33, 34, 35, 36, 37, 38, 39, 40, 41, 42, 43, 44, 45, 46, 47, 48, 49, 50, 51, 52, 53, 54, 55, 56, 57, 58, 59] 41 (fun j : {x : Nat × List Px // x.1 ≤ t ∧ x.2 = lays w l (fs.take x.1)} => [(.t 25, .v (.c (.v (.int .i64 j.1.1)))), (.b 40, .b (.w true (pvs j.1.2)))]) (fun j => t - j.1.1) (⟨(0, l), by omega, rfl⟩) (by ((repeat (first | exact EW.subW.nil | refine EW.subW.cons rfl ?_ | refine EW.subW.conv rfl ?_)); (first | done | fail))) ?_; rintro hcl6 ⟨⟨i, y⟩, hi, hy⟩; (try dsimp only))
    all_goals try (refine EW.nm ?_)
    all_goals try ((first | refine EW.eRegL (id := 6) ?_ | refine EW.eReg (id := 6) ?_); refine EW.eLss ?_; refine EW.eEnd ?_; (try refine EW.nm ?_))
    all_goals try (first | refine EW.eYes (x := Operand.tmp 26) ?_ | refine EW.eNo (x := Operand.tmp 26) ?_ | (refine EW.eCond (x := Operand.tmp 26) ?_ ?_ <;> (intro hb hb'; (try dsimp only at hb'); (try (exfalso; first | omega | with_reducible exact absurd rfl hb')))))
    all_goals try (refine EW.nm ?_)
    all_goals (try ((try dsimp only at hi hy); have hiq : i < t ∨ t = i := (by omega); rcases hiq with hit | hit; (have hil : i < fs.length := (by omega); obtain ⟨ha1, ha2⟩ := hat i hit; obtain ⟨hs1, hs2⟩ := hs i hit; have hyl : y.length = l.length := (by rw [hy]; exact lays_len _ _ _); have hSl := islot_y o l w h (fs.getD i Fg.zero).x (fs.getD i Fg.zero).y hs1; rw [ha1] at hSl; have hnx := lays_next (w := w) (xs := l) hil; rw [← hy] at hnx; unfold lay1 at hnx; have hNr := pnear (y.getD (fat w (fs.getD i Fg.zero)) Px.zero) (fs.getD i Fg.zero).p; generalize fat w (fs.getD i Fg.zero) = at9 at *; obtain ⟨q, hq⟩ : ∃ q, (y.getD at9 Px.zero).near (fs.getD i Fg.zero).p = q := ⟨_, rfl⟩; rw [hq] at hNr hnx); rotate_left; subst hit; rotate_left))
    all_goals try ((first | refine EW.eRegL (id := 7) ?_ | refine EW.eReg (id := 7) ?_); (first | refine EW.eIndexAddrS (z := 6) ?_ | refine EW.eIndexAddrG (z := 6) ?_); refine EW.eLoadA (k := 6) ?_; refine EW.eAlloc ?_; (first | refine EW.eStoreW (k := 6) ?_ | refine EW.eStore (k := 6) ?_); refine EW.eEnd ?_; (try refine EW.nm ?_))
    all_goals try ((first | refine EW.eRegL (id := 8) ?_ | refine EW.eReg (id := 8) ?_); refine EW.eLoadA (k := 3) ?_; refine EW.eFieldAddr (k := 1) ?_; refine EW.eLoad1 ?_; refine EW.eFieldAddr (k := 1) ?_; refine EW.eLoad1 ?_; (first | refine EW.eCallN [0] Try.call31 (hSl) ?_ | refine EW.eCallN [0] Try.call31 (hSt) ?_); refine EW.eMove ?_; (first | refine EW.eExtC ?_ | refine EW.eExtA ?_); (first | refine EW.eExtC ?_ | refine EW.eExtA ?_); refine EW.eAssign ?_; refine EW.eAssign ?_; refine EW.eEnd ?_; (try refine EW.nm ?_))
    all_goals try ((first | refine EW.eRegL (id := 9) ?_ | refine EW.eReg (id := 9) ?_); refine EW.eLoadA (k := 6) ?_; (first | refine EW.eCall Try.call40 (fun w => of_y (fs.getD i Fg.zero) hs2 w) ?_ | refine EW.eCall Try.call40 (fun w => hOt w) ?_); refine EW.eMove ?_; (first | refine EW.eExtC ?_ | refine EW.eExtA ?_); (first | refine EW.eExtC ?_ | refine EW.eExtA ?_); refine EW.eAlloc ?_; (first | refine EW.eStoreW (k := 4) ?_ | refine EW.eStore (k := 4) ?_); refine EW.eAssign ?_; refine EW.eEnd ?_; (try refine EW.nm ?_))
    all_goals try ((first | refine EW.eRegL (id := 10) ?_ | refine EW.eReg (id := 10) ?_); refine EW.eMove ?_; refine EW.eNot ?_; refine EW.eMove ?_)
    all_goals try (refine EW.eGuard (j := 2) (o := ⟨some 46, _, _, _, _, _⟩) ?_ ?_ <;> (intro hb hb'; (try dsimp only at hb'); (try (exfalso; first | omega | with_reducible exact absurd rfl hb'))))
    all_goals try ((first | refine EW.eSkipF (j := 2) ?_ | refine EW.eSkipU (j := 2) ?_ | refine EW.eMove ?_); (first | refine EW.eSkipF (j := 2) ?_ | refine EW.eSkipU (j := 2) ?_ | refine EW.eNeq ?_); (first | refine EW.ePickT ?_ | refine EW.ePickF ?_); refine EW.eEnd ?_; (try refine EW.nm ?_))
    all_goals try (first | refine EW.eYes (x := Operand.tmp 48) ?_ | refine EW.eNo (x := Operand.tmp 48) ?_ | (refine EW.eCond (x := Operand.tmp 48) ?_ ?_ <;> (intro hb hb'; (try dsimp only at hb'); (try (exfalso; first | omega | with_reducible exact absurd rfl hb')))))
    all_goals try (refine EW.nm ?_)
    all_goals try ((first | refine EW.eRegL (id := 11) ?_ | refine EW.eReg (id := 11) ?_); refine EW.eBuild (place := fun i => [(0, 1), (1, 1), (2, 1)][i]?) ?_; (first | refine EW.eStoreW (k := 3) ?_ | refine EW.eStore (k := 3) ?_); refine EW.eAssign ?_; refine EW.eEnd ?_; (try refine EW.nm ?_))
    all_goals (try (refine EW.eNilBK 20 2 25 4 (l' := [.v (.int .i64 0), .v (.int .i64 0), .g 25 0 0 0 4]) ?_))
    all_goals try (with_reducible refine EW.parkK ?_)
    all_goals try ((first | refine EW.eRegL (id := 12) ?_ | refine EW.eReg (id := 12) ?_); refine EW.eMove ?_; refine EW.eMove ?_; refine EW.eMove ?_; refine EW.eMove ?_; (first | refine EW.eIndexAddrS (z := 4) ?_ | refine EW.eIndexAddrG (z := 4) ?_); refine EW.eLoadA (k := 4) ?_; refine EW.eLoadA (k := 4) ?_; refine EW.eCall Try.call41 (fun w => hNr w) ?_; (first | refine EW.eIndexAddrS (z := 4) ?_ | refine EW.eIndexAddrG (z := 4) ?_); (first | refine EW.eStoreW (k := 4) ?_ | refine EW.eStore (k := 4) ?_); refine EW.eDraw ?_; (try refine EW.nm ?_))
    all_goals try ((first | refine EW.eRegL (id := 13) ?_ | refine EW.eReg (id := 13) ?_); refine EW.eAdd ?_; refine EW.eMove ?_; refine EW.eEnd ?_; (try refine EW.nm ?_))
    all_goals first | (fail_if_success (with_reducible refine EW.isLater ?_)) | (refine EW.eLaterD (⟨(i + 1, y.set at9 q), by dsimp only; omega, hnx.symm⟩) (by dsimp only; omega) (by ((repeat (first | exact EW.subW.nil | refine EW.subW.cons rfl ?_ | refine EW.subW.conv rfl ?_)); (first | done | fail))) hcl6)
    all_goals try (refine EW.nm ?_)
    all_goals try ((first | refine EW.eRegL (id := 14) ?_ | refine EW.eReg (id := 14) ?_); refine EW.eLoadA (k := 3) ?_; refine EW.eMove ?_; fail "no contract of mullion/image.with"; (first | refine EW.eStoreW (k := 3) ?_ | refine EW.eStore (k := 3) ?_); refine EW.eAssign ?_; refine EW.eEnd ?_; (try refine EW.nm ?_))
    all_goals try (with_reducible refine EW.parkK ?_)
    all_goals try (refine EW.Park.mk ?_)
  all_goals (refine EW.eLeaveN [25] hR (by first | exact .inl rfl | exact .inr rfl) (by rfl) (by rfl) ?_ ?_ rfl rfl (by (((repeat (first | exact EW.NL.emp | (refine EW.NL.upd ?_ rfl) | refine EW.NL.drp ?_ | refine EW.NL.hp ?_ | refine EW.NL.argS ?_ | refine EW.NL.mix ?_)); (first | done | fail)))) rfl rfl; rotate_left 1; (· ((repeat (first | exact EW.atE.nil | refine EW.atE.lt rfl ?_ | refine EW.atE.lf ?_ | refine EW.atE.b rfl EW.SameB.refl ?_ | (refine EW.atE.b rfl ?_ ?_; rotate_left 1))))))
  all_goals rfl
set_option maxHeartbeats 2000000 in
theorem dlay_y (o o' : Bool) (l : List Px) (fs : List Fg) (w h : Int) (hi : imOk w h l) (hf : fs.length ≤ 1000) (hs : ∀ i, i < fs.length → fgOk w h (fs.getD i Fg.zero)) : LayR 36 o o' l fs w h w h (lays w l fs) 0 := by
  have hC := dmay_y o l w h hi
  have h4 := im_len hi
  have hK := dtwin o l (by omega)
  have hll := lays_len w fs l
  have hat := fun i (h : i < fs.length) => fat_is hi (hs i h).1
  have hof := fun i (h : i < fs.length) (u : World) => show Calls Try.prog 56 #[(fs.getD i Fg.zero).val] u (fun e w' => e = .returned (.tuple #[(fs.getD i Fg.zero).p.val, .int .i64 0]) ∧ Below u.heap.size u w') by have := rof_any (fs.getD i Fg.zero) u; rwa [ofV, if_pos (hs i h).2] at this
  have hsl := fun i (h' : i < fs.length) => dslot_y o l w h (fs.getD i Fg.zero).x (fs.getD i Fg.zero).y (hs i h').1
  unfold LayR
  rw [hll]
  clear hi
  refine EW.ctEnter [10, 20, 30, 40, 50, 60, 70, 80, 90, 100, 110, 120, 130, 140, 150, 160, 170, 180, 190, 200, 210, 220, 230, 240, 250, 260, 270, 280, 290, 300, 310, 320, 330, 340, 350, 360, 370, 380, 390, 400, 410, 420, 430, 440, 450, 460, 470, 480, 490, 500, 510, 520, 530, 540, 550, 560, 570, 580, 590, 600] Try.func36 rfl Try.ntmps36 rfl (by (((repeat (first | exact EW.NL.emp | (refine EW.NL.upd ?_ rfl) | refine EW.NL.drp ?_ | refine EW.NL.hp ?_ | refine EW.NL.argS ?_ | refine EW.NL.mix ?_)); (first | done | fail)))) ?_; intro w0 tch ini R hR
  all_goals try (refine EW.nm ?_)
  all_goals try ((first | refine EW.eRegL (id := 0) ?_ | refine EW.eReg (id := 0) ?_); refine EW.eBox ?_; refine EW.eAlloc ?_; refine EW.eAssign ?_; refine EW.eEnd ?_; (try refine EW.nm ?_))
  all_goals try ((first | refine EW.eRegL (id := 1) ?_ | refine EW.eReg (id := 1) ?_); refine EW.eLoadA (k := 3) ?_; refine EW.eCallN [0] Try.call33 (hC) ?_; refine EW.eAssign ?_; refine EW.eEnd ?_; (try refine EW.nm ?_))
  all_goals try ((first | refine EW.eRegL (id := 2) ?_ | refine EW.eReg (id := 2) ?_); refine EW.eAssign ?_; refine EW.eEnd ?_; (try refine EW.nm ?_))
  all_goals first | (fail_if_success (refine EW.eUnroll 1 ?_)) | (refine EW.eLoopD [6, 7, 8, 9, 10, 18, 19, 20, 21, 22, 23, 24, 25, 26, 27, 28, 29, 30, 31, 32, 33, 34, 35, 36, 37, 38, 39, 40, 41, 42, 43, 44, 45, 46, 47, 48, 49, 50, 51, 52] 31 (fun j : {i : Nat // i ≤ fs.length} => [(.t 7, .v (.c (.v (.int .i64 j.1)))), (.t 6, .v (.c (.v (.bool true))))]) (fun j => fs.length - j.1) (⟨0, by omega⟩) (by ((repeat (first | exact EW.subW.nil | refine EW.subW.cons rfl ?_ | refine EW.subW.conv rfl ?_)); (first | done | fail))) ?_; rintro hcl3 ⟨i, hi⟩; (try dsimp only))
  all_goals try (refine EW.nm ?_)
  all_goals try ((first | refine EW.eRegL (id := 3) ?_ | refine EW.eReg (id := 3) ?_); refine EW.eMove ?_; refine EW.eMove ?_; (first | refine EW.eLenS ?_ | refine EW.eLenG ?_ | refine EW.eLenN ?_); refine EW.eLss ?_; refine EW.eEnd ?_; (try refine EW.nm ?_))
  all_goals try (first | refine EW.eYes (x := Operand.tmp 21) ?_ | refine EW.eNo (x := Operand.tmp 21) ?_ | (refine EW.eCond (x := Operand.tmp 21) ?_ ?_ <;> (intro hb hb'; (try dsimp only at hb'); (try (exfalso; first | omega | with_reducible exact absurd rfl hb')))))
  all_goals try (refine EW.nm ?_)
  all_goals (try ((try dsimp only at hi); have hil : i < fs.length := (by omega); obtain ⟨ha1, ha2⟩ := hat i hil; have hSl := hsl i hil; rw [ha1] at hSl; have hOf := hof i hil))
  all_goals try ((first | refine EW.eRegL (id := 5) ?_ | refine EW.eReg (id := 5) ?_); refine EW.eLoadA (k := 3) ?_; refine EW.eMove ?_; refine EW.eMove ?_; (first | refine EW.eIndexAddrS (z := 6) ?_ | refine EW.eIndexAddrG (z := 6) ?_); refine EW.eFieldAddr (k := 1) ?_; refine EW.eLoad1 ?_; refine EW.eMove ?_; refine EW.eMove ?_; (first | refine EW.eIndexAddrS (z := 6) ?_ | refine EW.eIndexAddrG (z := 6) ?_); refine EW.eFieldAddr (k := 1) ?_; refine EW.eLoad1 ?_; refine EW.eCallN [0] Try.call32 (hSl) ?_; refine EW.eAssign ?_; refine EW.eDraw ?_; (try refine EW.nm ?_))
  all_goals try ((first | refine EW.eRegL (id := 6) ?_ | refine EW.eReg (id := 6) ?_); refine EW.eMove ?_; refine EW.eMove ?_; (first | refine EW.eIndexAddrS (z := 6) ?_ | refine EW.eIndexAddrG (z := 6) ?_); refine EW.eLoadA (k := 6) ?_; refine EW.eCall Try.call56 (fun w => hOf w) ?_; refine EW.eMove ?_; (first | refine EW.eExtC ?_ | refine EW.eExtA ?_); (first | refine EW.eExtC ?_ | refine EW.eExtA ?_); refine EW.eAlloc ?_; (first | refine EW.eStoreW (k := 4) ?_ | refine EW.eStore (k := 4) ?_); refine EW.eAssign ?_; refine EW.eEnd ?_; (try refine EW.nm ?_))
  all_goals try ((first | refine EW.eRegL (id := 7) ?_ | refine EW.eReg (id := 7) ?_); refine EW.eMove ?_; refine EW.eMove ?_)
  all_goals try (refine EW.eGuard (j := 1) (o := ⟨some 46, _, _, _, _, _⟩) ?_ ?_ <;> (intro hb hb'; (try dsimp only at hb'); (try (exfalso; first | omega | with_reducible exact absurd rfl hb'))))
  all_goals try ((first | refine EW.eSkipT (j := 1) ?_ | refine EW.eSkipU (j := 1) ?_ | refine EW.eMove ?_); (first | refine EW.eSkipT (j := 1) ?_ | refine EW.eSkipU (j := 1) ?_ | refine EW.eGeq ?_); (first | refine EW.ePickT ?_ | refine EW.ePickF ?_); refine EW.eMove ?_)
  all_goals try (refine EW.eGuard (j := 5) (o := ⟨some 50, _, _, _, _, _⟩) ?_ ?_ <;> (intro hb hb'; (try dsimp only at hb'); (try (exfalso; first | omega | with_reducible exact absurd rfl hb'))))
  all_goals try ((first | refine EW.eSkipT (j := 5) ?_ | refine EW.eSkipU (j := 5) ?_ | refine EW.eMove ?_); (first | refine EW.eSkipT (j := 5) ?_ | refine EW.eSkipU (j := 5) ?_ | refine EW.eEql ?_); (first | refine EW.ePickT ?_ | refine EW.ePickF ?_); refine EW.eAssign ?_; refine EW.eEnd ?_; (try refine EW.nm ?_))
  all_goals try ((first | refine EW.eRegL (id := 4) ?_ | refine EW.eReg (id := 4) ?_); refine EW.eMove ?_; refine EW.eAdd ?_; refine EW.eAssign ?_; refine EW.eEnd ?_; (try refine EW.nm ?_))
  all_goals first | (fail_if_success (with_reducible refine EW.isLater ?_)) | (refine EW.eLaterD (⟨i + 1, by omega⟩) (by dsimp only; omega) (by ((repeat (first | exact EW.subW.nil | refine EW.subW.cons rfl ?_ | refine EW.subW.conv rfl ?_)); (first | done | fail))) hcl3)
  all_goals try (refine EW.nm ?_)
  all_goals try ((first | refine EW.eRegL (id := 8) ?_ | refine EW.eReg (id := 8) ?_); refine EW.eMove ?_; refine EW.eNot ?_; refine EW.eEnd ?_; (try refine EW.nm ?_))
  all_goals try (first | refine EW.eYes (x := Operand.tmp 54) ?_ | refine EW.eNo (x := Operand.tmp 54) ?_ | (refine EW.eCond (x := Operand.tmp 54) ?_ ?_ <;> (intro hb hb'; (try dsimp only at hb'); (try (exfalso; first | omega | with_reducible exact absurd rfl hb')))))
  all_goals try (refine EW.nm ?_)
  all_goals try ((first | refine EW.eRegL (id := 9) ?_ | refine EW.eReg (id := 9) ?_); refine EW.eBuild (place := fun i => [(0, 1), (1, 1), (2, 1)][i]?) ?_; (first | refine EW.eStoreW (k := 3) ?_ | refine EW.eStore (k := 3) ?_); refine EW.eAssign ?_; refine EW.eEnd ?_; (try refine EW.nm ?_))
  all_goals try (with_reducible refine EW.parkK ?_)
  all_goals try ((first | refine EW.eRegL (id := 10) ?_ | refine EW.eReg (id := 10) ?_); refine EW.eFieldAddr (k := 1) ?_; refine EW.eLoad1 ?_; refine EW.eFieldAddr (k := 1) ?_; refine EW.eLoad1 ?_; refine EW.eFieldAddr (k := 1) ?_; refine EW.eLoad1 ?_; refine EW.eCallN [0] Try.call20 (hK) ?_; refine EW.eBuild (place := fun i => [(0, 1), (1, 1), (2, 1)][i]?) ?_; refine EW.eAlloc ?_; (first | refine EW.eStoreW (k := 3) ?_ | refine EW.eStore (k := 3) ?_); refine EW.eDraw ?_; (try refine EW.nm ?_))
  all_goals try ((first | refine EW.eRegL (id := 11) ?_ | refine EW.eReg (id := 11) ?_); refine EW.eAssign ?_; refine EW.eEnd ?_; (try refine EW.nm ?_))
  all_goals first | (fail_if_success (refine EW.eUnroll 1 ?_)) | (refine EW.eLoopD [1000040, 12, 13, 14, 15, 64, 65, 66, 67, 68, 69, 70, 71, 72, 73, 74, 75, 76, 77, 78, 79, 80, 81, 82, 83, 84, 85, 86, 87, 88, 89, 90, 91, 92, 93, 94, 95, 96, 97, 98, 99, 100] 51 (fun j : {x : Nat × List Px // x.1 ≤ fs.length ∧ x.2 = lays w l (fs.take x.1)} => [(.t 12, .v (.c (.v (.int .i64 j.1.1)))), (.b 40, .b (.w true (pvs j.1.2)))]) (fun j => fs.length - j.1.1) (⟨(0, l), by omega, rfl⟩) (by ((repeat (first | exact EW.subW.nil | refine EW.subW.cons rfl ?_ | refine EW.subW.conv rfl ?_)); (first | done | fail))) ?_; rintro hcl12 ⟨⟨i, y⟩, hi, hy⟩; (try dsimp only))
  all_goals try (refine EW.nm ?_)
  all_goals try ((first | refine EW.eRegL (id := 12) ?_ | refine EW.eReg (id := 12) ?_); refine EW.eMove ?_; refine EW.eMove ?_; (first | refine EW.eLenS ?_ | refine EW.eLenG ?_ | refine EW.eLenN ?_); refine EW.eLss ?_; refine EW.eEnd ?_; (try refine EW.nm ?_))
  all_goals try (first | refine EW.eYes (x := Operand.tmp 67) ?_ | refine EW.eNo (x := Operand.tmp 67) ?_ | (refine EW.eCond (x := Operand.tmp 67) ?_ ?_ <;> (intro hb hb'; (try dsimp only at hb'); (try (exfalso; first | omega | with_reducible exact absurd rfl hb')))))
  all_goals try (refine EW.nm ?_)
  all_goals (try ((try dsimp only at hi hy); have hil : i < fs.length := (by omega); obtain ⟨ha1, ha2⟩ := hat i hil; have hSl := hsl i hil; rw [ha1] at hSl; have hOf := hof i hil; have hyl : y.length = l.length := (by rw [hy]; exact lays_len _ _ _); have hnx := lays_next (w := w) (xs := l) hil; rw [← hy] at hnx; unfold lay1 at hnx; have hNr := dnear (y.getD (fat w (fs.getD i Fg.zero)) Px.zero) (fs.getD i Fg.zero).p; generalize fat w (fs.getD i Fg.zero) = at9 at *; obtain ⟨q, hq⟩ : ∃ q, (y.getD at9 Px.zero).near (fs.getD i Fg.zero).p = q := ⟨_, rfl⟩; rw [hq] at hNr hnx))
  all_goals try ((first | refine EW.eRegL (id := 14) ?_ | refine EW.eReg (id := 14) ?_); refine EW.eLoadA (k := 3) ?_; refine EW.eMove ?_; refine EW.eMove ?_; (first | refine EW.eIndexAddrS (z := 6) ?_ | refine EW.eIndexAddrG (z := 6) ?_); refine EW.eFieldAddr (k := 1) ?_; refine EW.eLoad1 ?_; refine EW.eMove ?_; refine EW.eMove ?_; (first | refine EW.eIndexAddrS (z := 6) ?_ | refine EW.eIndexAddrG (z := 6) ?_); refine EW.eFieldAddr (k := 1) ?_; refine EW.eLoad1 ?_; refine EW.eCallN [0] Try.call32 (hSl) ?_; refine EW.eAssign ?_; refine EW.eDraw ?_; (try refine EW.nm ?_))
  all_goals try ((first | refine EW.eRegL (id := 15) ?_ | refine EW.eReg (id := 15) ?_); refine EW.eMove ?_; refine EW.eMove ?_; (first | refine EW.eIndexAddrS (z := 6) ?_ | refine EW.eIndexAddrG (z := 6) ?_); refine EW.eLoadA (k := 6) ?_; refine EW.eCall Try.call56 (fun w => hOf w) ?_; refine EW.eMove ?_; (first | refine EW.eExtC ?_ | refine EW.eExtA ?_); (first | refine EW.eExtC ?_ | refine EW.eExtA ?_); refine EW.eAlloc ?_; (first | refine EW.eStoreW (k := 4) ?_ | refine EW.eStore (k := 4) ?_); refine EW.eAssign ?_; refine EW.eEnd ?_; (try refine EW.nm ?_))
  all_goals try ((first | refine EW.eRegL (id := 16) ?_ | refine EW.eReg (id := 16) ?_); refine EW.eFieldAddr (k := 1) ?_; refine EW.eLoad1 ?_; refine EW.eMove ?_; refine EW.eFieldAddr (k := 1) ?_; refine EW.eLoad1 ?_; refine EW.eMove ?_; (first | refine EW.eIndexAddrS (z := 4) ?_ | refine EW.eIndexAddrG (z := 4) ?_); refine EW.eLoadA (k := 4) ?_; refine EW.eLoadA (k := 4) ?_; refine EW.eCall Try.call52 (fun w => hNr w) ?_; (first | refine EW.eIndexAddrS (z := 4) ?_ | refine EW.eIndexAddrG (z := 4) ?_); (first | refine EW.eStoreW (k := 4) ?_ | refine EW.eStore (k := 4) ?_); refine EW.eDraw ?_; (try refine EW.nm ?_))
  all_goals try ((first | refine EW.eRegL (id := 13) ?_ | refine EW.eReg (id := 13) ?_); refine EW.eMove ?_; refine EW.eAdd ?_; refine EW.eAssign ?_; refine EW.eEnd ?_; (try refine EW.nm ?_))
  all_goals first | (fail_if_success (with_reducible refine EW.isLater ?_)) | (refine EW.eLaterD (⟨(i + 1, y.set at9 q), by dsimp only; omega, hnx.symm⟩) (by dsimp only; omega) (by ((repeat (first | exact EW.subW.nil | refine EW.subW.cons rfl ?_ | refine EW.subW.conv rfl ?_)); (first | done | fail))) hcl12)
  all_goals try (refine EW.nm ?_)
  all_goals try ((first | refine EW.eRegL (id := 17) ?_ | refine EW.eReg (id := 17) ?_); refine EW.eLoadA (k := 3) ?_; (first | refine EW.eStoreW (k := 3) ?_ | refine EW.eStore (k := 3) ?_); refine EW.eAssign ?_; refine EW.eEnd ?_; (try refine EW.nm ?_))
  all_goals try (with_reducible refine EW.parkK ?_)
  all_goals try (refine EW.Park.mk ?_)
  all_goals ((try dsimp only at hi hy); have hie : i = fs.length := (by omega); rw [hie, List.take_length] at hy; subst hy)
  all_goals (refine EW.eLeaveN [40] hR (by first | exact .inl rfl | exact .inr rfl) (by rfl) (by rfl) ?_ ?_ rfl rfl (by (((repeat (first | exact EW.NL.emp | (refine EW.NL.upd ?_ rfl) | refine EW.NL.drp ?_ | refine EW.NL.hp ?_ | refine EW.NL.argS ?_ | refine EW.NL.mix ?_)); (first | done | fail)))) rfl rfl; rotate_left 1; (· ((repeat (first | exact EW.atE.nil | refine EW.atE.lt rfl ?_ | refine EW.atE.lf ?_ | refine EW.atE.b rfl EW.SameB.refl ?_ | (refine EW.atE.b rfl ?_ ?_; rotate_left 1))))))
  all_goals rfl
set_option maxHeartbeats 2000000 in
theorem dlay_bad (o o' : Bool) (l : List Px) (fs : List Fg) (w h : Int) (b0 : Bool) (hl : l.length ≤ 10000) (hf : fs.length ≤ 1000) (hC : CT Try.prog 33 [.a (imC 0 w h l.length)] (upd EW.emp (WP o l)) 1 1 (.c (.v (.bool b0))) (upd (upd EW.emp (WP o l)) [])) (hno : ¬ (b0 = true ∧ ∀ i, i < fs.length → fgOk w h (fs.getD i Fg.zero))) : LayR 36 o o' l fs w h 0 0 [] 140 := by
  have hst : ∀ i, ∃ d : Int, (∀ o, CT Try.prog 32 [.a (imC 0 w h l.length), .c (.v (.int .i64 (fs.getD i Fg.zero).x)), .c (.v (.int .i64 (fs.getD i Fg.zero).y))] (upd EW.emp (WP o l)) 1 1 (.c (.v (.int .i64 d))) (upd (upd EW.emp (WP o l)) [])) ∧ (0 ≤ d → inIm w h (fs.getD i Fg.zero).x (fs.getD i Fg.zero).y) := fun i => by
    obtain ⟨_, d, _, _, h2, _, h3, _⟩ := slot_e o l w h (fs.getD i Fg.zero).x (fs.getD i Fg.zero).y
    exact ⟨d, h2, h3.1⟩
  have hot : ∀ i, ∃ (q : Px) (e : Int), (∀ u, Calls Try.prog 56 #[(fs.getD i Fg.zero).val] u fun r w' => r = .returned (.tuple #[q.val, .int .i64 e]) ∧ Below u.heap.size u w') ∧ (e = 0 → (fs.getD i Fg.zero).p.ok) := fun i => by
    obtain ⟨q, e, _, h2, h3⟩ := of_e (fs.getD i Fg.zero)
    exact ⟨q, e, h2, h3.1⟩
  obtain ⟨Pb, hPt, hno'⟩ : ∃ Pb : Prop, (b0 = true → Pb) ∧ ¬ (Pb ∧ ∀ i, i < fs.length → fgOk w h (fs.getD i Fg.zero)) := ⟨b0 = true, id, hno⟩
  clear hno
  cases b0
  all_goals
    refine EW.ctEnter [10, 20, 30, 40, 50, 60, 70, 80, 90, 100, 110, 120, 130, 140, 150, 160, 170, 180, 190, 200, 210, 220, 230, 240, 250, 260, 270, 280, 290, 300, 310, 320, 330, 340, 350, 360, 370, 380, 390, 400, 410, 420, 430, 440, 450, 460, 470, 480, 490, 500, 510, 520, 530, 540, 550, 560, 570, 580, 590, 600] Try.func36 rfl Try.ntmps36 rfl (by (((repeat (first | exact EW.NL.emp | (refine EW.NL.upd ?_ rfl) | refine EW.NL.drp ?_ | refine EW.NL.hp ?_ | refine EW.NL.argS ?_ | refine EW.NL.mix ?_)); (first | done | fail)))) ?_; intro w0 tch ini R hR
    all_goals try (refine EW.nm ?_)
    all_goals try ((first | refine EW.eRegL (id := 0) ?_ | refine EW.eReg (id := 0) ?_); refine EW.eBox ?_; refine EW.eAlloc ?_; refine EW.eAssign ?_; refine EW.eEnd ?_; (try refine EW.nm ?_))
    all_goals try ((first | refine EW.eRegL (id := 1) ?_ | refine EW.eReg (id := 1) ?_); refine EW.eLoadA (k := 3) ?_; refine EW.eCallN [0] Try.call33 (hC) ?_; refine EW.eAssign ?_; refine EW.eEnd ?_; (try refine EW.nm ?_))
    all_goals try ((first | refine EW.eRegL (id := 2) ?_ | refine EW.eReg (id := 2) ?_); refine EW.eAssign ?_; refine EW.eEnd ?_; (try refine EW.nm ?_))
    all_goals first | (fail_if_success (refine EW.eUnroll 1 ?_)) | (refine EW.eLoopD [6, 7, 8, 9, 10, 18, 19, 20, 21, 22, 23, 24, 25, 26, 27, 28, 29, 30, 31, 32, 33, 34, 35, 36, 37, 38, 39, 40, 41, 42, 43, 44, 45, 46, 47, 48, 49, 50, 51, 52] 31 (fun j : {x : Nat × Bool // x.1 ≤ fs.length ∧ (x.2 = true → Pb ∧ ∀ q, q < x.1 → fgOk w h (fs.getD q Fg.zero))} => [(.t 7, .v (.c (.v (.int .i64 j.1.1)))), (.t 6, .v (.c (.v (.bool j.1.2))))]) (fun j => fs.length - j.1.1) (⟨(0, true), by omega, fun _ => ⟨hPt rfl, fun q hq => by omega⟩⟩ ) (by ((repeat (first | exact EW.subW.nil | refine EW.subW.cons rfl ?_ | refine EW.subW.conv rfl ?_)); (first | done | fail))) ?_; rintro hcl3 ⟨⟨i, bb⟩, hi, hp⟩; (try dsimp only)) | (refine EW.eLoopD [6, 7, 8, 9, 10, 18, 19, 20, 21, 22, 23, 24, 25, 26, 27, 28, 29, 30, 31, 32, 33, 34, 35, 36, 37, 38, 39, 40, 41, 42, 43, 44, 45, 46, 47, 48, 49, 50, 51, 52] 31 (fun j : {x : Nat × Bool // x.1 ≤ fs.length ∧ (x.2 = true → Pb ∧ ∀ q, q < x.1 → fgOk w h (fs.getD q Fg.zero))} => [(.t 7, .v (.c (.v (.int .i64 j.1.1)))), (.t 6, .v (.c (.v (.bool j.1.2))))]) (fun j => fs.length - j.1.1) ( ⟨(0, false), by omega, fun h => by cases h⟩) (by ((repeat (first | exact EW.subW.nil | refine EW.subW.cons rfl ?_ | refine EW.subW.conv rfl ?_)); (first | done | fail))) ?_; rintro hcl3 ⟨⟨i, bb⟩, hi, hp⟩; (try dsimp only))
    all_goals try (refine EW.nm ?_)
    all_goals try ((first | refine EW.eRegL (id := 3) ?_ | refine EW.eReg (id := 3) ?_); refine EW.eMove ?_; refine EW.eMove ?_; (first | refine EW.eLenS ?_ | refine EW.eLenG ?_ | refine EW.eLenN ?_); refine EW.eLss ?_; refine EW.eEnd ?_; (try refine EW.nm ?_))
    all_goals try (first | refine EW.eYes (x := Operand.tmp 21) ?_ | refine EW.eNo (x := Operand.tmp 21) ?_ | (refine EW.eCond (x := Operand.tmp 21) ?_ ?_ <;> (intro hb hb'; (try dsimp only at hb'); (try (exfalso; first | omega | with_reducible exact absurd rfl hb')))))
    all_goals try (refine EW.nm ?_)
    all_goals (try ((try dsimp only at hi hp); have hil : i < fs.length := (by omega); obtain ⟨dv, hSl, hd⟩ := hst i; obtain ⟨qv, ev, hOf, hev⟩ := hot i; cases bb))
    all_goals try ((first | refine EW.eRegL (id := 5) ?_ | refine EW.eReg (id := 5) ?_); refine EW.eLoadA (k := 3) ?_; refine EW.eMove ?_; refine EW.eMove ?_; (first | refine EW.eIndexAddrS (z := 6) ?_ | refine EW.eIndexAddrG (z := 6) ?_); refine EW.eFieldAddr (k := 1) ?_; refine EW.eLoad1 ?_; refine EW.eMove ?_; refine EW.eMove ?_; (first | refine EW.eIndexAddrS (z := 6) ?_ | refine EW.eIndexAddrG (z := 6) ?_); refine EW.eFieldAddr (k := 1) ?_; refine EW.eLoad1 ?_; refine EW.eCallN [0] Try.call32 (hSl o) ?_; refine EW.eAssign ?_; refine EW.eDraw ?_; (try refine EW.nm ?_))
    all_goals try ((first | refine EW.eRegL (id := 6) ?_ | refine EW.eReg (id := 6) ?_); refine EW.eMove ?_; refine EW.eMove ?_; (first | refine EW.eIndexAddrS (z := 6) ?_ | refine EW.eIndexAddrG (z := 6) ?_); refine EW.eLoadA (k := 6) ?_; refine EW.eCall Try.call56 (fun w => hOf w) ?_; refine EW.eMove ?_; (first | refine EW.eExtC ?_ | refine EW.eExtA ?_); (first | refine EW.eExtC ?_ | refine EW.eExtA ?_); refine EW.eAlloc ?_; (first | refine EW.eStoreW (k := 4) ?_ | refine EW.eStore (k := 4) ?_); refine EW.eAssign ?_; refine EW.eEnd ?_; (try refine EW.nm ?_))
    all_goals try ((first | refine EW.eRegL (id := 7) ?_ | refine EW.eReg (id := 7) ?_); refine EW.eMove ?_; refine EW.eMove ?_)
    all_goals try (refine EW.eGuard (j := 1) (o := ⟨some 46, _, _, _, _, _⟩) ?_ ?_ <;> (intro hb hb'; (try dsimp only at hb'); (try (exfalso; first | omega | with_reducible exact absurd rfl hb'))))
    all_goals try ((first | refine EW.eSkipT (j := 1) ?_ | refine EW.eSkipU (j := 1) ?_ | refine EW.eMove ?_); (first | refine EW.eSkipT (j := 1) ?_ | refine EW.eSkipU (j := 1) ?_ | refine EW.eGeq ?_); (first | refine EW.ePickT ?_ | refine EW.ePickF ?_); refine EW.eMove ?_)
    all_goals try (refine EW.eGuard (j := 5) (o := ⟨some 50, _, _, _, _, _⟩) ?_ ?_ <;> (intro hb hb'; (try dsimp only at hb'); (try (exfalso; first | omega | with_reducible exact absurd rfl hb'))))
    all_goals try ((first | refine EW.eSkipT (j := 5) ?_ | refine EW.eSkipU (j := 5) ?_ | refine EW.eMove ?_); (first | refine EW.eSkipT (j := 5) ?_ | refine EW.eSkipU (j := 5) ?_ | refine EW.eEql ?_); (first | refine EW.ePickT ?_ | refine EW.ePickF ?_); refine EW.eAssign ?_; refine EW.eEnd ?_; (try refine EW.nm ?_))
    all_goals try ((first | refine EW.eRegL (id := 4) ?_ | refine EW.eReg (id := 4) ?_); refine EW.eMove ?_; refine EW.eAdd ?_; refine EW.eAssign ?_; refine EW.eEnd ?_; (try refine EW.nm ?_))
    all_goals first | (fail_if_success (with_reducible refine EW.isLater ?_)) | (refine EW.eLaterD (⟨(i + 1, decide (ev = 0)), by dsimp only; omega, fun hx => ⟨(hp rfl).1, fun q hq => by dsimp only at hx hq; (rcases Nat.lt_or_ge q i with h5 | h5; (focus exact (hp rfl).2 q h5)); (have h6 : q = i := (by omega)); subst h6; exact ⟨hd (by assumption), hev (of_decide_eq_true hx)⟩⟩⟩) (by dsimp only; omega) (by ((repeat (first | exact EW.subW.nil | refine EW.subW.cons rfl ?_ | refine EW.subW.conv rfl ?_)); (first | done | fail))) hcl3) | (refine EW.eLaterD (⟨(i + 1, false), by dsimp only; omega, fun h => by cases h⟩) (by dsimp only; omega) (by ((repeat (first | exact EW.subW.nil | refine EW.subW.cons rfl ?_ | refine EW.subW.conv rfl ?_)); (first | done | fail))) hcl3)
    all_goals try (refine EW.nm ?_)
    all_goals (try ((try dsimp only at hi hp); have hie : i = fs.length := (by omega); cases bb; rotate_left; (focus (exfalso; subst hie; exact hno' (hp rfl))); rotate_left))
    all_goals try ((first | refine EW.eRegL (id := 8) ?_ | refine EW.eReg (id := 8) ?_); refine EW.eMove ?_; refine EW.eNot ?_; refine EW.eEnd ?_; (try refine EW.nm ?_))
    all_goals try (first | refine EW.eYes (x := Operand.tmp 54) ?_ | refine EW.eNo (x := Operand.tmp 54) ?_ | (refine EW.eCond (x := Operand.tmp 54) ?_ ?_ <;> (intro hb hb'; (try dsimp only at hb'); (try (exfalso; first | omega | with_reducible exact absurd rfl hb')))))
    all_goals try (refine EW.nm ?_)
    all_goals try ((first | refine EW.eRegL (id := 9) ?_ | refine EW.eReg (id := 9) ?_); refine EW.eBuild (place := fun i => [(0, 1), (1, 1), (2, 1)][i]?) ?_; (first | refine EW.eStoreW (k := 3) ?_ | refine EW.eStore (k := 3) ?_); refine EW.eAssign ?_; refine EW.eEnd ?_; (try refine EW.nm ?_))
    all_goals (try (refine EW.eNilBK 20 2 25 4 (l' := [.v (.int .i64 0), .v (.int .i64 0), .g 25 0 0 0 4]) ?_))
    all_goals try (with_reducible refine EW.parkK ?_)
    all_goals try ((first | refine EW.eRegL (id := 10) ?_ | refine EW.eReg (id := 10) ?_); refine EW.eFieldAddr (k := 1) ?_; refine EW.eLoad1 ?_; refine EW.eFieldAddr (k := 1) ?_; refine EW.eLoad1 ?_; refine EW.eFieldAddr (k := 1) ?_; refine EW.eLoad1 ?_; fail "no contract of mullion/mullionref14.Twin"; refine EW.eBuild (place := fun i => [(0, 1), (1, 1), (2, 1)][i]?) ?_; refine EW.eAlloc ?_; (first | refine EW.eStoreW (k := 3) ?_ | refine EW.eStore (k := 3) ?_); refine EW.eDraw ?_; (try refine EW.nm ?_))
    all_goals try ((first | refine EW.eRegL (id := 11) ?_ | refine EW.eReg (id := 11) ?_); refine EW.eAssign ?_; refine EW.eEnd ?_; (try refine EW.nm ?_))
    all_goals try (refine EW.eUnroll 6 ?_)
    all_goals try (refine EW.nm ?_)
    iterate 6 (
      all_goals try ((first | refine EW.eRegL (id := 12) ?_ | refine EW.eReg (id := 12) ?_); refine EW.eMove ?_; refine EW.eMove ?_; (first | refine EW.eLenS ?_ | refine EW.eLenG ?_ | refine EW.eLenN ?_); refine EW.eLss ?_; refine EW.eEnd ?_; (try refine EW.nm ?_))
      all_goals try (first | refine EW.eYes (x := Operand.tmp 67) ?_ | refine EW.eNo (x := Operand.tmp 67) ?_ | (refine EW.eCond (x := Operand.tmp 67) ?_ ?_ <;> (intro hb hb'; (try dsimp only at hb'); (try (exfalso; first | omega | with_reducible exact absurd rfl hb')))))
      all_goals try (refine EW.nm ?_)
      all_goals try ((first | refine EW.eRegL (id := 14) ?_ | refine EW.eReg (id := 14) ?_); refine EW.eLoadA (k := 3) ?_; refine EW.eMove ?_; refine EW.eMove ?_; (first | refine EW.eIndexAddrS (z := 6) ?_ | refine EW.eIndexAddrG (z := 6) ?_); refine EW.eFieldAddr (k := 1) ?_; refine EW.eLoad1 ?_; refine EW.eMove ?_; refine EW.eMove ?_; (first | refine EW.eIndexAddrS (z := 6) ?_ | refine EW.eIndexAddrG (z := 6) ?_); refine EW.eFieldAddr (k := 1) ?_; refine EW.eLoad1 ?_; refine EW.eCallN [0] Try.call32 (hSl o) ?_; refine EW.eAssign ?_; refine EW.eDraw ?_; (try refine EW.nm ?_))
      all_goals try ((first | refine EW.eRegL (id := 15) ?_ | refine EW.eReg (id := 15) ?_); refine EW.eMove ?_; refine EW.eMove ?_; (first | refine EW.eIndexAddrS (z := 6) ?_ | refine EW.eIndexAddrG (z := 6) ?_); refine EW.eLoadA (k := 6) ?_; refine EW.eCall Try.call56 (fun w => hOf w) ?_; refine EW.eMove ?_; (first | refine EW.eExtC ?_ | refine EW.eExtA ?_); (first | refine EW.eExtC ?_ | refine EW.eExtA ?_); refine EW.eAlloc ?_; (first | refine EW.eStoreW (k := 4) ?_ | refine EW.eStore (k := 4) ?_); refine EW.eAssign ?_; refine EW.eEnd ?_; (try refine EW.nm ?_))
      all_goals try ((first | refine EW.eRegL (id := 16) ?_ | refine EW.eReg (id := 16) ?_); refine EW.eFieldAddr (k := 1) ?_; refine EW.eLoad1 ?_; refine EW.eMove ?_; refine EW.eFieldAddr (k := 1) ?_; refine EW.eLoad1 ?_; refine EW.eMove ?_; (first | refine EW.eIndexAddrS (z := 4) ?_ | refine EW.eIndexAddrG (z := 4) ?_); refine EW.eLoadA (k := 4) ?_; refine EW.eLoadA (k := 4) ?_; fail "no contract of mullion/mullionref14.near"; (first | refine EW.eIndexAddrS (z := 4) ?_ | refine EW.eIndexAddrG (z := 4) ?_); (first | refine EW.eStoreW (k := 4) ?_ | refine EW.eStore (k := 4) ?_); refine EW.eDraw ?_; (try refine EW.nm ?_))
      all_goals try ((first | refine EW.eRegL (id := 13) ?_ | refine EW.eReg (id := 13) ?_); refine EW.eMove ?_; refine EW.eAdd ?_; refine EW.eAssign ?_; refine EW.eEnd ?_; (try refine EW.nm ?_)))
    all_goals try ((first | refine EW.eRegL (id := 17) ?_ | refine EW.eReg (id := 17) ?_); refine EW.eLoadA (k := 3) ?_; (first | refine EW.eStoreW (k := 3) ?_ | refine EW.eStore (k := 3) ?_); refine EW.eAssign ?_; refine EW.eEnd ?_; (try refine EW.nm ?_))
    all_goals try (with_reducible refine EW.parkK ?_)
    all_goals try (refine EW.Park.mk ?_)
  all_goals (refine EW.eLeaveN [25] hR (by first | exact .inl rfl | exact .inr rfl) (by rfl) (by rfl) ?_ ?_ rfl rfl (by (((repeat (first | exact EW.NL.emp | (refine EW.NL.upd ?_ rfl) | refine EW.NL.drp ?_ | refine EW.NL.hp ?_ | refine EW.NL.argS ?_ | refine EW.NL.mix ?_)); (first | done | fail)))) rfl rfl; rotate_left 1; (· ((repeat (first | exact EW.atE.nil | refine EW.atE.lt rfl ?_ | refine EW.atE.lf ?_ | refine EW.atE.b rfl EW.SameB.refl ?_ | (refine EW.atE.b rfl ?_ ?_; rotate_left 1))))))
  all_goals rfl
theorem first_bad {P : Nat → Prop} {n : Nat} (h : ¬ ∀ i, i < n → P i) : ∃ t, t < n ∧ (∀ i, i < t → P i) ∧ ¬ P t := by
  have key : ∀ k, k ≤ n → (∀ i, i < k → P i) ∨ ∃ t, t < n ∧ (∀ i, i < t → P i) ∧ ¬ P t := by
    intro k
    induction k with
    | zero => intro _; exact .inl fun i hi => by omega
    | succ k ih =>
      intro hk
      rcases ih (by omega) with h1 | h1
      · by_cases hm : P k
        · left; intro i hi
          rcases Nat.lt_or_ge i k with h2 | h2
          · exact h1 i h2
          · obtain rfl : i = k := by omega
            exact hm
        · exact .inr ⟨k, by omega, h1, hm⟩
      · exact .inr h1
  rcases key n (Nat.le_refl _) with h1 | h1
  · exact absurd h1 h
  · exact h1
theorem lay_both (o o' : Bool) (l : List Px) (fs : List Fg) (w h : Int) (hl : l.length ≤ 10000) (hf : fs.length ≤ 1000) : ∃ w' h' r e, r.length ≤ l.length ∧ LayR 35 o o' l fs w h w' h' r e ∧ ∀ o, LayR 36 o o' l fs w h w' h' r e := by
  by_cases hi : imOk w h l
  · by_cases hs : ∀ i, i < fs.length → fgOk w h (fs.getD i Fg.zero)
    · exact ⟨w, h, lays w l fs, 0, by rw [lays_len]; exact Nat.le_refl _, ilay_y o o' l fs w h hi hf hs, fun o => dlay_y o o' l fs w h hi hf hs⟩
    · obtain ⟨t, t1, t2, t3⟩ := first_bad hs
      exact ⟨0, 0, [], 140, by simp, ilay_bad2 o o' l fs w h t hi hf t1 t2 t3, fun o => dlay_bad o o' l fs w h true hl hf (dmay_y o l w h hi) (fun x => hs x.2)⟩
  · exact ⟨0, 0, [], 140, by simp, ilay_bad1 o o' l fs w h hl hi, fun o => dlay_bad o o' l fs w h false hl hf (dmay_n o l w h hi hl) (fun x => by cases x.1)⟩
end Go.Proofs.Ytflgamohploalaa
