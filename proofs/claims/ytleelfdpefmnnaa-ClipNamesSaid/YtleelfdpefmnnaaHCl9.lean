/- The document's clip: Cross, Cut, Clip, Same; package clip: Fan. -/
import Derived.Test.YtleelfdpefmnnaaHCl8
namespace Go.Proofs.Ytleelfdpefmnnaa
set_option linter.unusedSimpArgs false
set_option linter.unusedVariables false
open Go.RowKit EV
open SX (Wr Tv Qu Rm Sh Is conjP eqs_iff eqs_false)
open EW (PlL PlT PlV PlVs LfV Mm Bt Opn GV YT lpOf nums)
set_option maxRecDepth 20000
section
variable (p a0 a1 a2 a3 b0 b1 b2 b3 d f e x0 x1 x2 x3 : Int)
theorem dst_arg (h : p < 0 ∨ 7 ≤ p) : DST p (V4 a0 a1 a2 a3) 0 2 := by
  intro w
  refine EW.eEnter Try.func11 rfl Try.ntmps11 ?_
  all_goals try (refine EW.nm ?_)
  all_goals try ((first | refine EW.eRegL (id := 0) ?_ | refine EW.eReg (id := 0) ?_); refine EW.eBox ?_; refine EW.eAssign ?_; refine EW.eAssign ?_; refine EW.eEnd ?_; (try refine EW.nm ?_))
  all_goals try ((first | refine EW.eRegL (id := 1) ?_ | refine EW.eReg (id := 1) ?_); refine EW.eMove ?_; refine EW.eLss ?_; refine EW.eMove ?_)
  all_goals try (refine EW.eGuard (j := 2) (o := ⟨some 10, _, _, _, _, _⟩) ?_ ?_ <;> (intro hb hb'; (try dsimp only at hb'); (try (exfalso; first | omega | with_reducible exact absurd rfl hb'))))
  all_goals try ((first | refine EW.eSkipF (j := 2) ?_ | refine EW.eSkipU (j := 2) ?_ | refine EW.eMove ?_); (first | refine EW.eSkipF (j := 2) ?_ | refine EW.eSkipU (j := 2) ?_ | refine EW.eGeq ?_); (first | refine EW.ePickT ?_ | refine EW.ePickF ?_); refine EW.eAssign ?_; refine EW.eEnd ?_; (try refine EW.nm ?_))
  all_goals try (first | refine EW.eYes (x := Operand.tmp 6) ?_ | refine EW.eNo (x := Operand.tmp 6) ?_ | (refine EW.eCond (x := Operand.tmp 6) ?_ ?_ <;> (intro hb hb'; (try dsimp only at hb'); (try (exfalso; first | omega | with_reducible exact absurd rfl hb')))))
  all_goals try (refine EW.nm ?_)
  all_goals try ((first | refine EW.eRegL (id := 2) ?_ | refine EW.eReg (id := 2) ?_); refine EW.eAssign ?_; refine EW.eAssign ?_; refine EW.eEnd ?_; (try refine EW.nm ?_))
  all_goals try ((first | refine EW.eRegL (id := 3) ?_ | refine EW.eReg (id := 3) ?_); refine EW.eLoadA (k := 4) ?_; fail "no contract of mullion/clip.May"; refine EW.eNot ?_; refine EW.eAssign ?_; refine EW.eEnd ?_; (try refine EW.nm ?_))
  all_goals try (first | refine EW.eYes (x := Operand.tmp 13) ?_ | refine EW.eNo (x := Operand.tmp 13) ?_ | (refine EW.eCond (x := Operand.tmp 13) ?_ ?_ <;> (intro hb hb'; (try dsimp only at hb'); (try (exfalso; first | omega | with_reducible exact absurd rfl hb')))))
  all_goals try (refine EW.nm ?_)
  all_goals try ((first | refine EW.eRegL (id := 4) ?_ | refine EW.eReg (id := 4) ?_); refine EW.eAssign ?_; refine EW.eAssign ?_; refine EW.eEnd ?_; (try refine EW.nm ?_))
  all_goals try ((first | refine EW.eRegL (id := 5) ?_ | refine EW.eReg (id := 5) ?_); refine EW.eMove ?_; refine EW.eLoadA (k := 4) ?_; fail "no contract of mullion/clip.dist"; refine EW.eAssign ?_; refine EW.eAssign ?_; refine EW.eEnd ?_; (try refine EW.nm ?_))
  all_goals (refine EW.eLeaveP ?_; intro w' hW; refine ⟨?_, hW⟩)
  all_goals rfl
end
theorem list_of_getD {α : Type} {d : α} {xs ys : List α} (h : xs.length = ys.length) (hp : ∀ q, q < xs.length → xs.getD q d = ys.getD q d) : xs = ys := by
  refine List.ext_getElem h fun i h1 h2 => ?_
  have := hp i h1
  simpa [List.getD_eq_getElem?_getD, List.getElem?_eq_getElem h1, List.getElem?_eq_getElem h2] using this
theorem less_succ {p : Nat → Prop} {i : Nat} (h : ∀ q, q < i → p q) (hi : p i) : ∀ q, q < i + 1 → p q := fun q hq => by
  rcases Nat.lt_or_ge q i with h1 | h1
  · exact h q h1
  · rw [show q = i by omega]; exact hi
/-- The fan of the first ones. -/
def fanL (l : List Vx) (k : Nat) : List Vx := (List.range k).flatMap fun i => [l.getD 0 Vx.zero, l.getD (i + 1) Vx.zero, l.getD (i + 2) Vx.zero]
def fvs (l : List Vx) (k : Nat) : List Value := vvs (fanL l k)
theorem fanL_succ (l : List Vx) (k : Nat) : fanL l (k + 1) = fanL l k ++ [l.getD 0 Vx.zero, l.getD (k + 1) Vx.zero, l.getD (k + 2) Vx.zero] := by simp [fanL, List.range_succ]
theorem fanL_len (l : List Vx) : ∀ k, (fanL l k).length = k * 3
  | 0 => rfl
  | k + 1 => by rw [fanL_succ, List.length_append, fanL_len l k]; simp; omega
theorem fvs_succ (l : List Vx) (k : Nat) : fvs l k ++ ((l.getD 0 Vx.zero).vals ++ ((l.getD (k + 1) Vx.zero).vals ++ (l.getD (k + 2) Vx.zero).vals)) = fvs l (k + 1) := by
  rw [fvs, fvs, fanL_succ, ← vvs_append]; simp [vvs]
theorem fvs_len (l : List Vx) (k : Nat) : (fvs l k).length = k * 12 := by rw [fvs, vvs_length, fanL_len]; omega
theorem fvs_cut (l : List Vx) : ∀ (k j : Nat), j < k → ((fvs l k).drop (j * 12)).take 12 = (l.getD 0 Vx.zero).vals ++ ((l.getD (j + 1) Vx.zero).vals ++ (l.getD (j + 2) Vx.zero).vals)
  | 0, j, h => by omega
  | k + 1, j, h => by
    rw [← fvs_succ]
    have h1 := fvs_len l k
    rcases Nat.lt_or_ge j k with h2 | h2
    · rw [List.drop_append_of_le_length (by omega), List.take_append_of_le_length (by rw [List.length_drop]; omega), fvs_cut l k j h2]
    · obtain rfl : j = k := by omega
      rw [← h1, List.drop_left]; rfl
abbrev r12 (u v w : Vx) : List Value := [.int .i64 u.x, .int .i64 u.y, .int .i64 u.z, .int .i64 u.q, .int .i64 v.x, .int .i64 v.y, .int .i64 v.z, .int .i64 v.q, .int .i64 w.x, .int .i64 w.y, .int .i64 w.z, .int .i64 w.q]
instance (l : List Vx) (k : Nat) : EW.RowV (fvs l k) 12 k (fun j => r12 (l.getD 0 Vx.zero) (l.getD (j + 1) Vx.zero) (l.getD (j + 2) Vx.zero)) := ⟨fvs_len l k, fun j h => fvs_cut l k j h⟩
theorem fvs_at (l : List Vx) (k j m : Nat) (hj : j = k + 1) (hm : m = k + 2) : fvs l k ++ ((l.getD 0 Vx.zero).vals ++ ((l.getD j Vx.zero).vals ++ (l.getD m Vx.zero).vals)) = fvs l (k + 1) := by
  subst hj; subst hm; exact fvs_succ l k
theorem fan_ct (ol : Bool) (l : List Vx) (hl : l.length ≤ 10000) : CT Try.prog 14 [.c (.g 0 0 l.length l.length 4)] (upd EW.emp (WF ol l)) 1 2 (.c (.g 1 0 (l.length - 2) (l.length - 2) 12)) (upd (upd EW.emp (WF ol l)) [(.l 1, .l true), (.b 1, .b (.w true (fvs l (l.length - 2))))]) := by
  refine EW.ctEnter [10, 20, 30, 40, 50, 60, 70, 80, 90, 100, 110, 120, 130, 140, 150, 160, 170, 180, 190, 200, 210, 220, 230, 240, 250, 260, 270, 280, 290, 300, 310, 320, 330, 340, 350, 360, 370, 380, 390, 400, 410, 420, 430, 440, 450, 460, 470, 480, 490, 500, 510, 520, 530, 540, 550, 560, 570, 580, 590, 600] Try.func14 rfl Try.ntmps14 rfl (by (((repeat (first | exact EW.NL.emp | (refine EW.NL.upd ?_ rfl) | refine EW.NL.drp ?_ | refine EW.NL.hp ?_ | refine EW.NL.argS ?_ | refine EW.NL.mix ?_)); (first | done | fail)))) ?_; intro w0 tch ini R hR
  all_goals try (refine EW.nm ?_)
  all_goals try ((first | refine EW.eRegL (id := 0) ?_ | refine EW.eReg (id := 0) ?_); refine EW.eAssign ?_; refine EW.eEnd ?_; (try refine EW.nm ?_))
  all_goals try ((first | refine EW.eRegL (id := 1) ?_ | refine EW.eReg (id := 1) ?_); refine EW.eAssign ?_; refine EW.eEnd ?_; (try refine EW.nm ?_))
  all_goals try ((first | refine EW.eRegL (id := 2) ?_ | refine EW.eReg (id := 2) ?_); refine EW.eAssign ?_; refine EW.eEnd ?_; (try refine EW.nm ?_))
  all_goals first | (fail_if_success (refine EW.eUnroll 1 ?_)) | (refine EW.eNilG 3 9 12 ?_)
  all_goals first | (fail_if_success (refine EW.eUnroll 1 ?_)) | (refine EW.eLoopD [3, 4, 5, 6, 7, 8, 9, 10, 11, 12, 13, 14, 15, 16, 17, 18, 19, 20, 21, 22, 23, 24, 25, 26] 9 (fun j : {k : Nat // k ≤ l.length - 2} => [(.t 4, .v (.c (.v (.int .i64 ((j.1 : Int) + 2))))), (.t 3, .v (.c (.g 9 0 j.1 j.1 12))), (.l 9, .l true), (.b 9, .b (.w true (fvs l j.1)))]) (fun j => l.length - j.1) (⟨0, by omega⟩) (by ((repeat (first | exact EW.subW.nil | refine EW.subW.cons rfl ?_ | refine EW.subW.conv rfl ?_ (by first | exact EW.kvW (fvs_at l k _ _ (by omega) (by omega)) | exact EW.kvI (by omega)) | refine EW.subW.conv rfl ?_)); (first | done | fail))) ?_; rintro hcl3 ⟨k, hk⟩; (try dsimp only))
  all_goals try (refine EW.nm ?_)
  all_goals try ((first | refine EW.eRegL (id := 3) ?_ | refine EW.eReg (id := 3) ?_); refine EW.eMove ?_; refine EW.eMove ?_; (first | refine EW.eLenS ?_ | refine EW.eLenG ?_ | refine EW.eLenN ?_); refine EW.eLss ?_; refine EW.eEnd ?_; (try refine EW.nm ?_))
  all_goals try (first | refine EW.eYes (x := Operand.tmp 8) ?_ | refine EW.eNo (x := Operand.tmp 8) ?_ | (refine EW.eCond (x := Operand.tmp 8) ?_ ?_ <;> (intro hb hb'; (try dsimp only at hb'); (try (exfalso; first | omega | with_reducible exact absurd rfl hb')))))
  all_goals try (refine EW.nm ?_)
  all_goals try ((first | refine EW.eRegL (id := 5) ?_ | refine EW.eReg (id := 5) ?_); refine EW.eMove ?_; refine EW.eMove ?_; (first | refine EW.eIndexAddrS (z := 4) ?_ | refine EW.eIndexAddrG (z := 4) ?_); refine EW.eLoadA (k := 4) ?_; refine EW.eMove ?_; refine EW.eMove ?_; refine EW.eSub ?_; (first | refine EW.eIndexAddrS (z := 4) ?_ | refine EW.eIndexAddrG (z := 4) ?_); refine EW.eLoadA (k := 4) ?_; refine EW.eMove ?_; refine EW.eMove ?_; (first | refine EW.eIndexAddrS (z := 4) ?_ | refine EW.eIndexAddrG (z := 4) ?_); refine EW.eLoadA (k := 4) ?_; refine EW.eBuild (place := fun i => some (i * 4, 4)) ?_; refine EW.eBuildSlice (k := 12) ?_; (first | refine EW.eAppGW (z := 12) ?_ | refine EW.eAppG (z := 12) ?_ | refine EW.eAppZW (z := 12) ?_ | refine EW.eAppZ (z := 12) ?_ | refine EW.eAppSW (z := 12) ?_ | refine EW.eAppS (z := 12) ?_ | refine EW.eAppNW (z := 12) ?_ | refine EW.eAppN (z := 12) ?_); refine EW.eAssign ?_; refine EW.eDraw ?_; (try refine EW.nm ?_))
  all_goals try ((first | refine EW.eRegL (id := 4) ?_ | refine EW.eReg (id := 4) ?_); refine EW.eMove ?_; refine EW.eAdd ?_; refine EW.eAssign ?_; refine EW.eEnd ?_; (try refine EW.nm ?_))
  all_goals first | (fail_if_success (with_reducible refine EW.isLater ?_)) | (refine EW.eLaterN (⟨k + 1, by omega⟩) [(9, 20)] (by dsimp only; omega) (by ((repeat (first | exact EW.subR.nil | refine EW.subR.l rfl ?_ | refine EW.subR.b rfl rfl ?_ | refine EW.subR.t rfl rfl ?_ | refine EW.subR.b rfl (by first | exact EW.kvW (fvs_at l k _ _ (by omega) (by omega)) | exact EW.kvI (by omega)) ?_ | refine EW.subR.t rfl (by first | exact EW.kvW (fvs_at l k _ _ (by omega) (by omega)) | exact EW.kvI (by omega)) ?_ | refine EW.subR.b rfl (by (first | exact EW.kvI (by first | omega | (dsimp only; omega)) | exact EW.kvG (by first | omega | (simp only [EW.nums_len, List.length_cons, List.length_nil, List.length_append, List.length_map, List.length_set, List.length_replicate, List.length_take, List.length_drop, List.length_range, EV.putL_length, Nat.reduceAdd, Nat.reduceMul, Nat.reduceSub]; omega)) (by first | omega | (simp only [EW.nums_len, List.length_cons, List.length_nil, List.length_append, List.length_map, List.length_set, List.length_replicate, List.length_take, List.length_drop, List.length_range, EV.putL_length, Nat.reduceAdd, Nat.reduceMul, Nat.reduceSub]; omega)) | exact EW.kvB (by simp [*]) | exact EW.kvW (by (first | rfl | simp)) | rfl)) ?_ | refine EW.subR.t rfl (by (first | exact EW.kvI (by first | omega | (dsimp only; omega)) | exact EW.kvG (by first | omega | (simp only [EW.nums_len, List.length_cons, List.length_nil, List.length_append, List.length_map, List.length_set, List.length_replicate, List.length_take, List.length_drop, List.length_range, EV.putL_length, Nat.reduceAdd, Nat.reduceMul, Nat.reduceSub]; omega)) (by first | omega | (simp only [EW.nums_len, List.length_cons, List.length_nil, List.length_append, List.length_map, List.length_set, List.length_replicate, List.length_take, List.length_drop, List.length_range, EV.putL_length, Nat.reduceAdd, Nat.reduceMul, Nat.reduceSub]; omega)) | exact EW.kvB (by simp [*]) | exact EW.kvW (by (first | rfl | simp)) | rfl)) ?_)); (first | done | fail))) (by (((repeat (first | with_reducible exact EW.Frm.refl | refine EW.Frm.upd ?_ rfl | refine EW.Frm.drp ?_ (by decide) rfl)); (first | done | fail)))) (by first | rfl | decide) (by (((repeat (first | exact True.intro | refine ⟨by (exact GV.no rfl rfl), ?_⟩)); (first | done | fail)))) (fun _ => rfl) hcl3 rfl (by ((first | (intro j n hn; cases hn; (first | done | fail)) | (intro n hn; cases hn; (first | done | fail)) | (intro j n hn; (repeat (first | (rcases List.mem_cons.1 hn with rfl | hn; (focus exact ⟨rfl, rfl⟩)) | (cases hn; (first | done | fail))))) | (intro n hn; (repeat (first | (rcases List.mem_cons.1 hn with rfl | hn; (focus exact ⟨rfl, rfl⟩)) | (cases hn; (first | done | fail)))))))))
  all_goals try (refine EW.nm ?_)
  all_goals try ((first | refine EW.eRegL (id := 6) ?_ | refine EW.eReg (id := 6) ?_); refine EW.eMove ?_; refine EW.eAssign ?_; refine EW.eEnd ?_; (try refine EW.nm ?_))
  all_goals (obtain rfl : k = l.length - 2 := by omega)
  all_goals (refine EW.eLeaveN [9] hR (by first | exact .inl rfl | exact .inr rfl) (by rfl) (by rfl) ?_ ?_ rfl rfl (by (((repeat (first | exact EW.NL.emp | (refine EW.NL.upd ?_ rfl) | refine EW.NL.drp ?_ | refine EW.NL.hp ?_ | refine EW.NL.argS ?_ | refine EW.NL.mix ?_)); (first | done | fail)))) rfl rfl; rotate_left 1; (· ((repeat (first | exact EW.atE.nil | refine EW.atE.lt rfl ?_ | refine EW.atE.lf ?_ | refine EW.atE.b rfl EW.SameB.refl ?_ | (refine EW.atE.b rfl ?_ ?_; rotate_left 1))))))
  all_goals rfl
end Go.Proofs.Ytleelfdpefmnnaa
