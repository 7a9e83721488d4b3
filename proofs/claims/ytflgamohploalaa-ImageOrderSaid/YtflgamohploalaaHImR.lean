/- image: Lay where it fails; the document's Lay. -/
import Derived.Test.YtflgamohploalaaHImQ
namespace Go.Proofs.Ytflgamohploalaa
set_option linter.unusedSimpArgs false
set_option linter.unusedVariables false
open Go.RowKit EV
open SX (Wr Tv Qu Rm Sh Is conjP eqs_iff eqs_false)
open EW (PlL PlT PlV PlVs LfV Mm Bt Opn GV YT lpOf nums)
set_option maxRecDepth 20000
/-- A place: its slot, told twice. -/
theorem slot_e (o : Bool) (l : List Px) (w h a b : Int) : ∃ (s d : Int) (is : Bool), CT Try.prog 31 [.a (imC 0 w h l.length), .c (.v (.int .i64 a)), .c (.v (.int .i64 b))] (upd EW.emp (WP o l)) 1 1 (.t [.inl (.v (.int .i64 s)), .inl (.v (.bool is))]) (upd (upd EW.emp (WP o l)) []) ∧ (∀ o, CT Try.prog 32 [.a (imC 0 w h l.length), .c (.v (.int .i64 a)), .c (.v (.int .i64 b))] (upd EW.emp (WP o l)) 1 1 (.c (.v (.int .i64 d))) (upd (upd EW.emp (WP o l)) [])) ∧ (is = true ↔ inIm w h a b) ∧ (0 ≤ d ↔ inIm w h a b) ∧ s = max d 0 ∧ -1 ≤ d ∧ d ≤ 4096 := by
  by_cases hi : inIm w h a b
  · have := slot_bound hi
    exact ⟨_, _, true, islot_y o l w h a b hi, fun o => dslot_y o l w h a b hi, ⟨fun _ => hi, fun _ => rfl⟩, ⟨fun _ => hi, fun _ => by omega⟩, by omega, by omega, by omega⟩
  · exact ⟨0, -1, false, islot_n o l w h a b hi, fun o => dslot_n o l w h a b hi, ⟨fun h => (by cases h), fun h => absurd h hi⟩, ⟨fun h => (by omega), fun h => absurd h hi⟩, by omega, by omega, by omega⟩
set_option maxHeartbeats 2000000 in
theorem ilay_bad2 (o o' : Bool) (l : List Px) (fs : List Fg) (w h : Int) (t : Nat) (hi : imOk w h l) (hf : fs.length ≤ 1000) (ht : t < fs.length) (hs : ∀ i, i < t → fgOk w h (fs.getD i Fg.zero)) (hno : ¬ fgOk w h (fs.getD t Fg.zero)) : LayR 35 o o' l fs w h 0 0 [] 140 := by
  have hC := icheck_y o l w h hi
  have h4 := im_len hi
  have hK := pclone_any o l (by omega)
  have hat := fun i (h : i < t) => fat_is hi (hs i h).1
  obtain ⟨st, dt, is, hSt, _, hst, _⟩ := slot_e o l w h (fs.getD t Fg.zero).x (fs.getD t Fg.zero).y
  obtain ⟨qt, et, hOt, _, het⟩ := of_e (fs.getD t Fg.zero)
  have hbad : ¬ (is = true ∧ et = 0) := fun x => hno ⟨hst.1 x.1, het.1 x.2⟩
  clear hi hst het hno
  cases is
  all_goals
    (simp only [Bool.false_eq_true, false_and, not_false_eq_true, true_and] at hbad)
    refine EW.ctEnter [10, 20, 30, 40, 50, 60, 70, 80, 90, 100, 110, 120, 130, 140, 150, 160, 170, 180, 190, 200, 210, 220, 230, 240, 250, 260, 270, 280, 290, 300, 310, 320, 330, 340, 350, 360, 370, 380, 390, 400, 410, 420, 430, 440, 450, 460, 470, 480, 490, 500, 510, 520, 530, 540, 550, 560, 570, 580, 590, 600] Try.func35 rfl Try.ntmps35 rfl (by (((repeat (first | exact EW.NL.emp | (refine EW.NL.upd ?_ rfl) | refine EW.NL.drp ?_ | refine EW.NL.hp ?_ | refine EW.NL.argS ?_ | refine EW.NL.mix ?_)); (first | done | fail)))) ?_; intro w0 tch ini R hR
    all_goals try (refine EW.nm ?_)
    all_goals try ((first | refine EW.eRegL (id := 0) ?_ | refine EW.eReg (id := 0) ?_); refine EW.eBox ?_; refine EW.eAlloc ?_; refine EW.eAssign ?_; refine EW.eEnd ?_; (try refine EW.nm ?_))
    all_goals try ((first | refine EW.eRegL (id := 1) ?_ | refine EW.eReg (id := 1) ?_); refine EW.eLoadA (k := 3) ?_; refine EW.eCallN [0] Try.call34 (hC) ?_; refine EW.eAssign ?_; refine EW.eEnd ?_; (try refine EW.nm ?_))
    all_goals try ((first | refine EW.eRegL (id := 2) ?_ | refine EW.eReg (id := 2) ?_); refine EW.eMove ?_; refine EW.eNeq ?_; refine EW.eEnd ?_; (try refine EW.nm ?_))
    all_goals try (first | refine EW.eYes (x := Operand.tmp 17) ?_ | refine EW.eNo (x := Operand.tmp 17) ?_ | (refine EW.eCond (x := Operand.tmp 17) ?_ ?_ <;> (intro hb hb'; (try dsimp only at hb'); (try (exfalso; first | omega | with_reducible exact absurd rfl hb')))))
    all_goals try (refine EW.nm ?_)
    all_goals try ((first | refine EW.eRegL (id := 3) ?_ | refine EW.eReg (id := 3) ?_); refine EW.eBuild (place := fun i => [(0, 1), (1, 1), (2, 1)][i]?) ?_; refine EW.eMove ?_; (first | refine EW.eStoreW (k := 3) ?_ | refine EW.eStore (k := 3) ?_); refine EW.eAssign ?_; refine EW.eEnd ?_; (try refine EW.nm ?_))
    all_goals try (with_reducible refine EW.parkK ?_)
    all_goals try ((first | refine EW.eRegL (id := 4) ?_ | refine EW.eReg (id := 4) ?_); refine EW.eFieldAddr (k := 1) ?_; refine EW.eLoad1 ?_; refine EW.eCallN [0] Try.call47 (hK) ?_; refine EW.eAssign ?_; refine EW.eEnd ?_; (try refine EW.nm ?_))
    all_goals try ((first | refine EW.eRegL (id := 5) ?_ | refine EW.eReg (id := 5) ?_); refine EW.eMove ?_; (first | refine EW.eLenS ?_ | refine EW.eLenG ?_ | refine EW.eLenN ?_); refine EW.eMove ?_; refine EW.eEnd ?_; (try refine EW.nm ?_))
    all_goals first | (fail_if_success (refine EW.eUnroll 1 ?_)) | (refine EW.eLoopD [1000040, 5, 9, 10, 11, 12, 13, 25, 26, 27, 28, 29, 30, 31, 32, 33, 34, 35, 36, 37, 38, 39, 40, 41, 42, 43, 44, 45, 46, 47, 48, 49, 50, 51, 52, 53, 54, 55, 56, 57, 58, 59] 41 (fun j : {x : Nat × List Px // x.1 ≤ t ∧ x.2 = lays w l (fs.take x.1)} => [(.t 25, .v (.c (.v (.int .i64 j.1.1)))), (.b 40, .b (.w true (pvs j.1.2)))]) (fun j => t - j.1.1) (⟨(0, l), by omega, rfl⟩) (by ((repeat (first | exact EW.subW.nil | refine EW.subW.cons rfl ?_ | refine EW.subW.conv rfl ?_)); (first | done | fail))) ?_; rintro hcl6 ⟨⟨i, y⟩, hi, hy⟩; (try dsimp only))
    all_goals try (refine EW.nm ?_)
    all_goals try ((first | refine EW.eRegL (id := 6) ?_ | refine EW.eReg (id := 6) ?_); refine EW.eLss ?_; refine EW.eEnd ?_; (try refine EW.nm ?_))
    all_goals try (first | refine EW.eYes (x := Operand.tmp 26) ?_ | refine EW.eNo (x := Operand.tmp 26) ?_ | (refine EW.eCond (x := Operand.tmp 26) ?_ ?_ <;> (intro hb hb'; (try dsimp only at hb'); (try (exfalso; first | omega | with_reducible exact absurd rfl hb')))))
    all_goals try (refine EW.nm ?_)
    all_goals (try ((try dsimp only at hi hy); have hiq : i < t ∨ t = i := (by omega); rcases hiq with hit | hit; (have hil : i < fs.length := (by omega); obtain ⟨ha1, ha2⟩ := hat i hit; obtain ⟨hs1, hs2⟩ := hs i hit; have hyl : y.length = l.length := (by rw [hy]; exact lays_len _ _ _); have hSl := islot_y o l w h (fs.getD i Fg.zero).x (fs.getD i Fg.zero).y hs1; rw [ha1] at hSl; have hnx := lays_next (w := w) (xs := l) hil; rw [← hy] at hnx; unfold lay1 at hnx; have hNr := pnear (y.getD (fat w (fs.getD i Fg.zero)) Px.zero) (fs.getD i Fg.zero).p; generalize fat w (fs.getD i Fg.zero) = at9 at *; obtain ⟨q, hq⟩ : ∃ q, (y.getD at9 Px.zero).near (fs.getD i Fg.zero).p = q := ⟨_, rfl⟩; rw [hq] at hNr hnx); rotate_left; subst hit; rotate_left))
    all_goals try ((first | refine EW.eRegL (id := 7) ?_ | refine EW.eReg (id := 7) ?_); (first | refine EW.eIndexAddrS (z := 6) ?_ | refine EW.eIndexAddrG (z := 6) ?_); refine EW.eLoadA (k := 6) ?_; refine EW.eAlloc ?_; (first | refine EW.eStoreW (k := 6) ?_ | refine EW.eStore (k := 6) ?_); refine EW.eEnd ?_; (try refine EW.nm ?_))
    all_goals try ((first | refine EW.eRegL (id := 8) ?_ | refine EW.eReg (id := 8) ?_); refine EW.eLoadA (k := 3) ?_; refine EW.eFieldAddr (k := 1) ?_; refine EW.eLoad1 ?_; refine EW.eFieldAddr (k := 1) ?_; refine EW.eLoad1 ?_; (first | refine EW.eCallN [0] Try.call31 (hSl) ?_ | refine EW.eCallN [0] Try.call31 (hSt) ?_); refine EW.eMove ?_; (first | refine EW.eExtC ?_ | refine EW.eExtA ?_); (first | refine EW.eExtC ?_ | refine EW.eExtA ?_); refine EW.eAssign ?_; refine EW.eAssign ?_; refine EW.eEnd ?_; (try refine EW.nm ?_))
    all_goals try ((first | refine EW.eRegL (id := 9) ?_ | refine EW.eReg (id := 9) ?_); refine EW.eLoadA (k := 6) ?_; (first | refine EW.eCall Try.call40 (fun w => of_y (fs.getD i Fg.zero) hs2 w) ?_ | refine EW.eCall Try.call40 (fun w => hOt w) ?_); refine EW.eMove ?_; (first | refine EW.eExtC ?_ | refine EW.eExtA ?_); (first | refine EW.eExtC ?_ | refine EW.eExtA ?_); refine EW.eAlloc ?_; (first | refine EW.eStoreW (k := 4) ?_ | refine EW.eStore (k := 4) ?_); refine EW.eAssign ?_; refine EW.eEnd ?_; (try refine EW.nm ?_))
    all_goals try ((first | refine EW.eRegL (id := 10) ?_ | refine EW.eReg (id := 10) ?_); refine EW.eMove ?_; refine EW.eNot ?_; refine EW.eMove ?_)
    all_goals try (refine EW.eGuard (j := 2) (o := ⟨some 46, _, _, _, _, _⟩) ?_ ?_ <;> (intro hb hb'; (try dsimp only at hb'); (try (exfalso; first | omega | with_reducible exact absurd rfl hb'))))
    all_goals try ((first | refine EW.eSkipF (j := 2) ?_ | refine EW.eSkipU (j := 2) ?_ | refine EW.eMove ?_); (first | refine EW.eSkipF (j := 2) ?_ | refine EW.eSkipU (j := 2) ?_ | refine EW.eNeq ?_); (first | refine EW.ePickT ?_ | refine EW.ePickF ?_); refine EW.eEnd ?_; (try refine EW.nm ?_))
    all_goals try (first | refine EW.eYes (x := Operand.tmp 48) ?_ | refine EW.eNo (x := Operand.tmp 48) ?_ | (refine EW.eCond (x := Operand.tmp 48) ?_ ?_ <;> (intro hb hb'; (try dsimp only at hb'); (try (exfalso; first | omega | with_reducible exact absurd rfl hb')))))
    all_goals try (refine EW.nm ?_)
    all_goals try ((first | refine EW.eRegL (id := 11) ?_ | refine EW.eReg (id := 11) ?_); refine EW.eBuild (place := fun i => [(0, 1), (1, 1), (2, 1)][i]?) ?_; (first | refine EW.eStoreW (k := 3) ?_ | refine EW.eStore (k := 3) ?_); refine EW.eAssign ?_; refine EW.eEnd ?_; (try refine EW.nm ?_))
    all_goals (try (refine EW.eNilBK 20 2 25 4 (l' := [.v (.int .i64 0), .v (.int .i64 0), .g 25 0 0 0 4]) ?_))
    all_goals try (with_reducible refine EW.parkK ?_)
    all_goals try ((first | refine EW.eRegL (id := 12) ?_ | refine EW.eReg (id := 12) ?_); refine EW.eMove ?_; refine EW.eMove ?_; refine EW.eMove ?_; refine EW.eMove ?_; (first | refine EW.eIndexAddrS (z := 4) ?_ | refine EW.eIndexAddrG (z := 4) ?_); refine EW.eLoadA (k := 4) ?_; refine EW.eLoadA (k := 4) ?_; refine EW.eCall Try.call41 (fun w => hNr w) ?_; (first | refine EW.eIndexAddrS (z := 4) ?_ | refine EW.eIndexAddrG (z := 4) ?_); (first | refine EW.eStoreW (k := 4) ?_ | refine EW.eStore (k := 4) ?_); refine EW.eDraw ?_; (try refine EW.nm ?_))
    all_goals try ((first | refine EW.eRegL (id := 13) ?_ | refine EW.eReg (id := 13) ?_); refine EW.eAdd ?_; refine EW.eMove ?_; refine EW.eEnd ?_; (try refine EW.nm ?_))
    all_goals first | (fail_if_success (with_reducible refine EW.isLater ?_)) | (refine EW.eLaterD (⟨(i + 1, y.set at9 q), by dsimp only; omega, hnx.symm⟩) (by dsimp only; omega) (by ((repeat (first | exact EW.subW.nil | refine EW.subW.cons rfl ?_ | refine EW.subW.conv rfl ?_)); (first | done | fail))) hcl6)
    all_goals try (refine EW.nm ?_)
    all_goals try ((first | refine EW.eRegL (id := 14) ?_ | refine EW.eReg (id := 14) ?_); refine EW.eLoadA (k := 3) ?_; refine EW.eMove ?_; fail "no contract of mullion/image.with"; (first | refine EW.eStoreW (k := 3) ?_ | refine EW.eStore (k := 3) ?_); refine EW.eAssign ?_; refine EW.eEnd ?_; (try refine EW.nm ?_))
    all_goals try (with_reducible refine EW.parkK ?_)
    all_goals try (refine EW.Park.mk ?_)
  all_goals (refine EW.eLeaveN [25] hR (by first | exact .inl rfl | exact .inr rfl) (by rfl) (by rfl) ?_ ?_ rfl rfl (by (((repeat (first | exact EW.NL.emp | (refine EW.NL.upd ?_ rfl) | refine EW.NL.drp ?_ | refine EW.NL.hp ?_ | refine EW.NL.argS ?_ | refine EW.NL.mix ?_)); (first | done | fail)))) rfl rfl; rotate_left 1; (· ((repeat (first | exact EW.atE.nil | refine EW.atE.lt rfl ?_ | refine EW.atE.lf ?_ | refine EW.atE.b rfl EW.SameB.refl ?_ | (refine EW.atE.b rfl ?_ ?_; rotate_left 1))))))
  all_goals rfl
theorem first_bad {P : Nat → Prop} {n : Nat} (h : ¬ ∀ i, i < n → P i) : ∃ t, t < n ∧ (∀ i, i < t → P i) ∧ ¬ P t := by
  have key : ∀ k, k ≤ n → (∀ i, i < k → P i) ∨ ∃ t, t < n ∧ (∀ i, i < t → P i) ∧ ¬ P t := by
    intro k
    induction k with
    | zero => intro _; exact .inl fun i hi => by omega
    | succ k ih =>
      intro hk
      rcases ih (by omega) with h1 | h1
      · by_cases hm : P k
        · left; intro i hi
          rcases Nat.lt_or_ge i k with h2 | h2
          · exact h1 i h2
          · obtain rfl : i = k := by omega
            exact hm
        · exact .inr ⟨k, by omega, h1, hm⟩
      · exact .inr h1
  rcases key n (Nat.le_refl _) with h1 | h1
  · exact absurd h1 h
  · exact h1
end Go.Proofs.Ytflgamohploalaa
