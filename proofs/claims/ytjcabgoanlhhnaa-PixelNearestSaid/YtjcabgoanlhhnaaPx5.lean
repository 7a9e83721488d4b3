/- The document's Least; the chapter's examples; PixelTells. -/
import Derived.Test.YtjcabgoanlhhnaaPx4
namespace Go.Proofs.Ytjcabgoanlhhnaa
set_option linter.unusedSimpArgs false
set_option linter.unusedVariables false
open Go.RowKit EV
open SX (Wr Tv Qu Rm Sh Is conjP eqs_iff eqs_false)
open EW (PlL PlT PlV PlVs LfV Mm Bt Opn GV)
set_option maxRecDepth 20000
/-- No other one stands ahead of it. -/
def firstK (l : List Px) (p : Px) (k : Nat) : Bool := (l.take k).all fun q => !decide (q.ahead p)
theorem firstK_succ (l : List Px) (p : Px) (k : Nat) (h : k < l.length) : firstK l p (k + 1) = (firstK l p k && !decide ((l.getD k Px.zero).ahead p)) := by
  have e : l.take (k + 1) = l.take k ++ [l.getD k Px.zero] := by
    rw [List.take_add_one, List.getElem?_eq_getElem h]
    simp only [Option.toList_some, List.getD_eq_getElem?_getD, List.getElem?_eq_getElem h, Option.getD_some]
  unfold firstK
  rw [e, List.all_append]
  simp only [List.all_cons, List.all_nil, Bool.and_true]
theorem firstK_all (l : List Px) (p : Px) : firstK l p l.length = l.all fun q => !decide (q.ahead p) := by simp [firstK]
def rleast (l : List Px) : Px := match l.find? (fun p => l.all fun q => !decide (q.ahead p)) with
  | some p => p
  | none => ⟨16777216, 0, 0, 0⟩
theorem find_at {p : Px → Bool} : ∀ (l : List Px) (i : Nat), i < l.length → p (l.getD i Px.zero) = true → (∀ j, j < i → p (l.getD j Px.zero) = false) → l.find? p = some (l.getD i Px.zero)
  | x :: l, 0, _, h, _ => by simpa using Or.inl h
  | x :: l, i + 1, hi, h, hp => by
    have h0 := hp 0 (by omega)
    simp only [List.getD_cons_zero] at h0
    rw [List.find?_cons_of_neg (by simp [h0])]
    have := find_at l i (by simpa using hi) (by simpa using h) (fun j hj => by have := hp (j + 1) (by omega); simpa using this)
    simpa using this
theorem find_none {p : Px → Bool} (l : List Px) (hp : ∀ j, j < l.length → p (l.getD j Px.zero) = false) : l.find? p = none := by
  rw [List.find?_eq_none]
  intro x hx
  obtain ⟨j, hj, rfl⟩ := List.getElem_of_mem hx
  have := hp j hj
  simp [List.getD_eq_getElem?_getD, List.getElem?_eq_getElem hj] at this
  simp [this]
theorem rahead_is (a b : Px) (r : Bool) (w : World) (h : decide (a.ahead b) = r) : Calls Try.prog 34 #[a.val, b.val] w fun e w' => e = .returned (.bool r) ∧ Below w.heap.size w w' := h ▸ rahead a b w
theorem rleast_ct (o : Bool) (l : List Px) (k0 : Nat) (hl : l.length ≤ 100000000) : CT Try.prog 17 [.c (.s 0 0 l.length k0)] (upd EW.emp [(.l 0, .l true), (.b 0, .b (.w o (pvs l)))]) 1 1 (.a (rleast l).cs) (upd (upd EW.emp [(.l 0, .l true), (.b 0, .b (.w o (pvs l)))]) []) := by
  refine EW.ctEnter [10, 20, 30, 40, 50, 60, 70, 80, 90, 100, 110, 120, 130, 140, 150, 160, 170, 180, 190, 200, 210, 220, 230, 240, 250, 260, 270, 280, 290, 300, 310, 320, 330, 340, 350, 360, 370, 380, 390, 400, 410, 420, 430, 440, 450, 460, 470, 480, 490, 500, 510, 520, 530, 540, 550, 560, 570, 580, 590, 600] Try.func17 rfl Try.ntmps17 rfl (by (((repeat (first | exact EW.NL.emp | (refine EW.NL.upd ?_ rfl) | refine EW.NL.drp ?_ | refine EW.NL.hp ?_ | refine EW.NL.argS ?_ | refine EW.NL.mix ?_)); (first | done | fail)))) ?_; intro w0 tch ini R hR
  all_goals try (refine EW.nm ?_)
  all_goals try (first | refine EW.eRegL (id := 0) ?_ | refine EW.eReg (id := 0) ?_)
  all_goals try (first | refine EW.eAlloc EV.wide_like (id := 0) (d := 2) ?_)
  all_goals try (refine EW.eEnd (id := 0) ?_)
  all_goals try (refine EW.nm ?_)
  all_goals try (first | refine EW.eRegL (id := 1) ?_ | refine EW.eReg (id := 1) ?_)
  all_goals try (first | refine EW.eAssign EV.wide_like (id := 1) (d := 3) ?_)
  all_goals try (refine EW.eEnd (id := 1) ?_)
  all_goals try (refine EW.nm ?_)
  all_goals first | (fail_if_success (refine EW.eUnroll 1 ?_)) | (refine EW.eLoopC [3, 4, 5, 6, 7, 8, 9, 10, 11, 12, 13, 14, 15, 16, 17, 18, 19, 20, 21, 22, 23, 24, 25, 26, 27, 28, 29, 30, 31, 32, 33, 34, 35, 36, 37] 1000000 (fun j : {i : Nat // i ≤ l.length ∧ ∀ q, q < i → firstK l (l.getD q Px.zero) l.length = false} => [(.t 3, .v (.c (.v (.int .i64 j.1))))]) (fun j => l.length - j.1) (⟨0, by omega, fun q h => absurd h (by omega)⟩) (by (((repeat (first | exact EW.subW.nil | refine EW.subW.cons rfl ?_ | refine EW.subW.conv rfl ((by first | exact EW.kvI (by first | omega | (dsimp only; omega)) | exact EW.kvG (by first | omega | (simp only [List.length_cons, List.length_nil, List.length_append, List.length_map, List.length_set, List.length_replicate, List.length_take, List.length_drop, List.length_range, EV.putL_length, Nat.reduceAdd, Nat.reduceMul, Nat.reduceSub]; omega)) (by first | omega | (simp only [List.length_cons, List.length_nil, List.length_append, List.length_map, List.length_set, List.length_replicate, List.length_take, List.length_drop, List.length_range, EV.putL_length, Nat.reduceAdd, Nat.reduceMul, Nat.reduceSub]; omega)) | exact EW.kvB (by simp [*]) | exact EW.kvW (by (first | rfl | simp)) | rfl)) ?_)); (first | done | fail)))) (by ((first | exact EW.ClD.nl (by (((repeat (first | exact EW.NL.emp | (refine EW.NL.upd ?_ rfl) | refine EW.NL.drp ?_ | refine EW.NL.hp ?_ | refine EW.NL.argS ?_ | refine EW.NL.mix ?_)); (first | done | fail)))) | exact EW.ClD.nm (by ((repeat (first | exact EW.NM.emp | (refine EW.NM.upd ?_ rfl) | refine EW.NM.drp ?_)); (first | done | fail)))))) (fun _ => rfl) (by ((first | (intro j n hn; cases hn; (first | done | fail)) | (intro n hn; cases hn; (first | done | fail)) | (intro j n hn; (repeat (first | (rcases List.mem_cons.1 hn with rfl | hn; (focus exact ⟨rfl, rfl⟩)) | (cases hn; (first | done | fail))))) | (intro n hn; (repeat (first | (rcases List.mem_cons.1 hn with rfl | hn; (focus exact ⟨rfl, rfl⟩)) | (cases hn; (first | done | fail)))))))) ?_; rintro hcl2 ⟨i, hi, hp⟩; (try dsimp only))
  all_goals try (refine EW.nm ?_)
  all_goals try (first | refine EW.eRegL (id := 2) ?_ | refine EW.eReg (id := 2) ?_)
  all_goals try (first | refine EW.eMove EV.wide_like (id := 2) (d := 7) ?_)
  all_goals try (first | refine EW.eMove EV.wide_like (id := 2) (d := 8) ?_)
  all_goals try (first | refine EW.eLenS EV.wide_like (id := 2) (d := 9) ?_ | refine EW.eLenG EV.wide_like (id := 2) (d := 9) ?_ | refine EW.eLenN EV.wide_like (id := 2) (d := 9) ?_)
  all_goals try (first | refine EW.eLss EV.wide_like (id := 2) (d := 10) ?_)
  all_goals try (refine EW.eEnd (id := 2) ?_)
  all_goals try (refine EW.nm ?_)
  all_goals try (first | refine EW.eYes (x := Operand.tmp 10) ?_ | refine EW.eNo (x := Operand.tmp 10) ?_ | (refine EW.eCond (x := Operand.tmp 10) ?_ ?_ <;> (intro hb hb'; (try dsimp only at hb'); (try (exfalso; first | omega | with_reducible exact absurd rfl hb')))))
  all_goals try (refine EW.nm ?_)
  all_goals try (first | refine EW.eRegL (id := 4) ?_ | refine EW.eReg (id := 4) ?_)
  all_goals try (first | refine EW.eAssign EV.wide_like (id := 4) (d := 4) ?_)
  all_goals try (refine EW.eEnd (id := 4) ?_)
  all_goals try (refine EW.nm ?_)
  all_goals try (first | refine EW.eRegL (id := 5) ?_ | refine EW.eReg (id := 5) ?_)
  all_goals try (first | refine EW.eAssign EV.wide_like (id := 5) (d := 5) ?_)
  all_goals try (refine EW.eEnd (id := 5) ?_)
  all_goals try (refine EW.nm ?_)
  all_goals first | (fail_if_success (refine EW.eUnroll 1 ?_)) | (refine EW.eLoopC [4, 5, 6, 13, 14, 15, 16, 17, 18, 19, 20, 21, 22, 23, 24, 25, 26, 27, 28, 29, 30, 31, 32] 1000000 (fun j : {k : Nat // k ≤ l.length} => [(.t 5, .v (.c (.v (.int .i64 j.1)))), (.t 4, .v (.c (.v (.bool (firstK l (l.getD i Px.zero) j.1)))))]) (fun j => l.length - j.1) (⟨0, by omega⟩) (by ((repeat (first | exact EW.subW.nil | refine EW.subW.cons rfl ?_ | refine EW.subW.conv rfl (by first | (exact EW.kvB (by rw [firstK_succ l _ k (by omega)]; first | (simp only [hb', decide_true, decide_false, Bool.not_true, Bool.not_false, Bool.and_true, Bool.and_false]; done) | (simp only [eq_true hb', eq_false hb', decide_true, decide_false, Bool.not_true, Bool.not_false, Bool.and_true, Bool.and_false]; done) | simp_all)) | exact ((by first | exact EW.kvI (by first | omega | (dsimp only; omega)) | exact EW.kvG (by first | omega | (simp only [List.length_cons, List.length_nil, List.length_append, List.length_map, List.length_set, List.length_replicate, List.length_take, List.length_drop, List.length_range, EV.putL_length, Nat.reduceAdd, Nat.reduceMul, Nat.reduceSub]; omega)) (by first | omega | (simp only [List.length_cons, List.length_nil, List.length_append, List.length_map, List.length_set, List.length_replicate, List.length_take, List.length_drop, List.length_range, EV.putL_length, Nat.reduceAdd, Nat.reduceMul, Nat.reduceSub]; omega)) | exact EW.kvB (by simp [*]) | exact EW.kvW (by (first | rfl | simp)) | rfl))) ?_)); (first | done | fail))) (by ((first | exact EW.ClD.nl (by (((repeat (first | exact EW.NL.emp | (refine EW.NL.upd ?_ rfl) | refine EW.NL.drp ?_ | refine EW.NL.hp ?_ | refine EW.NL.argS ?_ | refine EW.NL.mix ?_)); (first | done | fail)))) | exact EW.ClD.nm (by ((repeat (first | exact EW.NM.emp | (refine EW.NM.upd ?_ rfl) | refine EW.NM.drp ?_)); (first | done | fail)))))) (fun _ => rfl) (by ((first | (intro j n hn; cases hn; (first | done | fail)) | (intro n hn; cases hn; (first | done | fail)) | (intro j n hn; (repeat (first | (rcases List.mem_cons.1 hn with rfl | hn; (focus exact ⟨rfl, rfl⟩)) | (cases hn; (first | done | fail))))) | (intro n hn; (repeat (first | (rcases List.mem_cons.1 hn with rfl | hn; (focus exact ⟨rfl, rfl⟩)) | (cases hn; (first | done | fail)))))))) ?_; rintro hcl6 ⟨k, hk⟩; (try dsimp only))
  all_goals try (refine EW.nm ?_)
  all_goals try (first | refine EW.eRegL (id := 6) ?_ | refine EW.eReg (id := 6) ?_)
  all_goals try (first | refine EW.eMove EV.wide_like (id := 6) (d := 13) ?_)
  all_goals try (first | refine EW.eMove EV.wide_like (id := 6) (d := 14) ?_)
  all_goals try (first | refine EW.eLenS EV.wide_like (id := 6) (d := 15) ?_ | refine EW.eLenG EV.wide_like (id := 6) (d := 15) ?_ | refine EW.eLenN EV.wide_like (id := 6) (d := 15) ?_)
  all_goals try (first | refine EW.eLss EV.wide_like (id := 6) (d := 16) ?_)
  all_goals try (refine EW.eEnd (id := 6) ?_)
  all_goals try (refine EW.nm ?_)
  all_goals try (first | refine EW.eYes (x := Operand.tmp 16) ?_ | refine EW.eNo (x := Operand.tmp 16) ?_ | (refine EW.eCond (x := Operand.tmp 16) ?_ ?_ <;> (intro hb hb'; (try dsimp only at hb'); (try (exfalso; first | omega | with_reducible exact absurd rfl hb')))))
  all_goals try (refine EW.nm ?_)
  all_goals try (first | refine EW.eRegL (id := 8) ?_ | refine EW.eReg (id := 8) ?_)
  all_goals try (first | refine EW.eMove EV.wide_like (id := 8) (d := 19) ?_)
  all_goals try (first | refine EW.eMove EV.wide_like (id := 8) (d := 20) ?_)
  all_goals try (first | refine EW.eIndexAddrS EV.wide_like (id := 8) (d := 21) (z := 4) ?_ | refine EW.eIndexAddrG EV.wide_like (id := 8) (d := 21) (z := 4) ?_)
  all_goals try (first | refine EW.eLoadA EV.wide_like (id := 8) (d := 22) (k := 4) ?_)
  all_goals try (first | refine EW.eMove EV.wide_like (id := 8) (d := 23) ?_)
  all_goals try (first | refine EW.eMove EV.wide_like (id := 8) (d := 24) ?_)
  all_goals try (first | refine EW.eIndexAddrS EV.wide_like (id := 8) (d := 25) (z := 4) ?_ | refine EW.eIndexAddrG EV.wide_like (id := 8) (d := 25) (z := 4) ?_)
  all_goals try (first | refine EW.eLoadA EV.wide_like (id := 8) (d := 26) (k := 4) ?_)
  all_goals try (first | refine EW.eCall EV.wide_like (id := 8) Try.call34 (fun w => rahead (l.getD k Px.zero) (l.getD i Px.zero) w) ?_)
  all_goals try (first | refine EW.eAssign EV.wide_like (id := 8) (d := 6) ?_)
  all_goals try (refine EW.eDraw (id := 8) EW.fok_wide' ?_)
  all_goals try (refine EW.nm ?_)
  all_goals try (first | refine EW.eRegL (id := 9) ?_ | refine EW.eReg (id := 9) ?_)
  all_goals try (first | refine EW.eMove EV.wide_like (id := 9) (d := 28) ?_)
  all_goals try (first | refine EW.eMove EV.wide_like (id := 9) (d := 29) ?_)
  all_goals try (refine EW.eGuard (id := 9) (j := 1) (o := ⟨some 30, _, _, _, _, _⟩) ?_ ?_ <;> (intro hb hb'; (try dsimp only at hb'); (try (exfalso; first | omega | with_reducible exact absurd rfl hb'))))
  all_goals try (first | refine EW.eSkipT EV.wide_like (id := 9) (j := 1) (e := 30) ?_ | refine EW.eSkipU EV.wide_like (id := 9) (j := 1) (e := 30) ?_ | refine EW.eMove EV.wide_like (id := 9) (d := 30) ?_)
  all_goals try (refine EW.eGuard (id := 9) (j := 1) (o := ⟨some 31, _, _, _, _, _⟩) ?_ ?_ <;> (intro hb hb'; (try dsimp only at hb'); (try (exfalso; first | omega | with_reducible exact absurd rfl hb'))))
  all_goals try (first | refine EW.eSkipT EV.wide_like (id := 9) (j := 1) (e := 31) ?_ | refine EW.eSkipU EV.wide_like (id := 9) (j := 1) (e := 31) ?_ | refine EW.eNot EV.wide_like (id := 9) (d := 31) ?_)
  all_goals try (refine EW.eChoice (id := 9) (d := some 32) ?_ ?_ <;> (intro hb hb'; (try dsimp only at hb'); (try (exfalso; first | omega | with_reducible exact absurd rfl hb'))))
  all_goals try (first | refine EW.ePickT EV.wide_like (id := 9) (d := 32) ?_ | refine EW.ePickF EV.wide_like (id := 9) (d := 32) ?_)
  all_goals try (first | refine EW.eAssign EV.wide_like (id := 9) (d := 4) ?_)
  all_goals try (refine EW.eEnd (id := 9) ?_)
  all_goals try (refine EW.nm ?_)
  all_goals try (first | refine EW.eRegL (id := 7) ?_ | refine EW.eReg (id := 7) ?_)
  all_goals try (first | refine EW.eMove EV.wide_like (id := 7) (d := 17) ?_)
  all_goals try (first | refine EW.eAdd EV.wide_like (id := 7) (d := 18) ?_)
  all_goals try (first | refine EW.eAssign EV.wide_like (id := 7) (d := 5) ?_)
  all_goals try (refine EW.eEnd (id := 7) ?_)
  all_goals try (refine EW.nm ?_)
  all_goals first | (fail_if_success (with_reducible refine EW.isLater ?_)) | (refine EW.eLater (⟨k + 1, by omega⟩) (by dsimp only; omega) (by ((repeat (first | exact EW.subW.nil | refine EW.subW.cons rfl ?_ | refine EW.subW.conv rfl (by first | (exact EW.kvB (by rw [firstK_succ l _ k (by omega)]; first | (simp only [hb', decide_true, decide_false, Bool.not_true, Bool.not_false, Bool.and_true, Bool.and_false]; done) | (simp only [eq_true hb', eq_false hb', decide_true, decide_false, Bool.not_true, Bool.not_false, Bool.and_true, Bool.and_false]; done) | simp_all)) | exact ((by first | exact EW.kvI (by first | omega | (dsimp only; omega)) | exact EW.kvG (by first | omega | (simp only [List.length_cons, List.length_nil, List.length_append, List.length_map, List.length_set, List.length_replicate, List.length_take, List.length_drop, List.length_range, EV.putL_length, Nat.reduceAdd, Nat.reduceMul, Nat.reduceSub]; omega)) (by first | omega | (simp only [List.length_cons, List.length_nil, List.length_append, List.length_map, List.length_set, List.length_replicate, List.length_take, List.length_drop, List.length_range, EV.putL_length, Nat.reduceAdd, Nat.reduceMul, Nat.reduceSub]; omega)) | exact EW.kvB (by simp [*]) | exact EW.kvW (by (first | rfl | simp)) | rfl))) ?_)); (first | done | fail))) (by (((repeat (first | with_reducible exact EW.Frm.refl | refine EW.Frm.upd ?_ rfl | refine EW.Frm.drp ?_ (by decide) rfl)); (first | done | fail)))) (fun _ => rfl) hcl6 (by ((first | (intro j n hn; cases hn; (first | done | fail)) | (intro n hn; cases hn; (first | done | fail)) | (intro j n hn; (repeat (first | (rcases List.mem_cons.1 hn with rfl | hn; (focus exact ⟨rfl, rfl⟩)) | (cases hn; (first | done | fail))))) | (intro n hn; (repeat (first | (rcases List.mem_cons.1 hn with rfl | hn; (focus exact ⟨rfl, rfl⟩)) | (cases hn; (first | done | fail)))))))))
  all_goals try (refine EW.nm ?_)
  all_goals try (first | refine EW.eRegL (id := 10) ?_ | refine EW.eReg (id := 10) ?_)
  all_goals try (first | refine EW.eMove EV.wide_like (id := 10) (d := 33) ?_)
  all_goals try (refine EW.eEnd (id := 10) ?_)
  all_goals try (refine EW.nm ?_)
  all_goals try (first | refine EW.eYes (x := Operand.tmp 33) ?_ | refine EW.eNo (x := Operand.tmp 33) ?_ | (refine EW.eCond (x := Operand.tmp 33) ?_ ?_ <;> (intro hb hb'; (try dsimp only at hb'); (try (exfalso; first | omega | with_reducible exact absurd rfl hb')))))
  all_goals try (refine EW.nm ?_)
  all_goals try (first | refine EW.eRegL (id := 11) ?_ | refine EW.eReg (id := 11) ?_)
  all_goals try (first | refine EW.eMove EV.wide_like (id := 11) (d := 34) ?_)
  all_goals try (first | refine EW.eMove EV.wide_like (id := 11) (d := 35) ?_)
  all_goals try (first | refine EW.eIndexAddrS EV.wide_like (id := 11) (d := 36) (z := 4) ?_ | refine EW.eIndexAddrG EV.wide_like (id := 11) (d := 36) (z := 4) ?_)
  all_goals try (first | refine EW.eLoadA EV.wide_like (id := 11) (d := 37) (k := 4) ?_)
  all_goals try (first | refine EW.eStoreW EV.wide_like (id := 11) (k := 4) ?_ | refine EW.eStore EV.wide_like (id := 11) (k := 4) ?_)
  all_goals try (refine EW.eEnd (id := 11) ?_)
  all_goals try (refine EW.nm ?_)
  all_goals try (first | refine EW.eRegL (id := 3) ?_ | refine EW.eReg (id := 3) ?_)
  all_goals try (first | refine EW.eMove EV.wide_like (id := 3) (d := 11) ?_)
  all_goals try (first | refine EW.eAdd EV.wide_like (id := 3) (d := 12) ?_)
  all_goals try (first | refine EW.eAssign EV.wide_like (id := 3) (d := 3) ?_)
  all_goals try (refine EW.eEnd (id := 3) ?_)
  all_goals try (refine EW.nm ?_)
  all_goals first | (fail_if_success (with_reducible refine EW.isLater ?_)) | (refine EW.eLater (⟨i + 1, by omega, less_succ hp (by have hk : k = l.length := (by omega); subst hk; exact hb')⟩) (by dsimp only; omega) (by (((repeat (first | exact EW.subW.nil | refine EW.subW.cons rfl ?_ | refine EW.subW.conv rfl ((by first | exact EW.kvI (by first | omega | (dsimp only; omega)) | exact EW.kvG (by first | omega | (simp only [List.length_cons, List.length_nil, List.length_append, List.length_map, List.length_set, List.length_replicate, List.length_take, List.length_drop, List.length_range, EV.putL_length, Nat.reduceAdd, Nat.reduceMul, Nat.reduceSub]; omega)) (by first | omega | (simp only [List.length_cons, List.length_nil, List.length_append, List.length_map, List.length_set, List.length_replicate, List.length_take, List.length_drop, List.length_range, EV.putL_length, Nat.reduceAdd, Nat.reduceMul, Nat.reduceSub]; omega)) | exact EW.kvB (by simp [*]) | exact EW.kvW (by (first | rfl | simp)) | rfl)) ?_)); (first | done | fail)))) (by (((repeat (first | with_reducible exact EW.Frm.refl | refine EW.Frm.upd ?_ rfl | refine EW.Frm.drp ?_ (by decide) rfl)); (first | done | fail)))) (fun _ => rfl) hcl2 (by ((first | (intro j n hn; cases hn; (first | done | fail)) | (intro n hn; cases hn; (first | done | fail)) | (intro j n hn; (repeat (first | (rcases List.mem_cons.1 hn with rfl | hn; (focus exact ⟨rfl, rfl⟩)) | (cases hn; (first | done | fail))))) | (intro n hn; (repeat (first | (rcases List.mem_cons.1 hn with rfl | hn; (focus exact ⟨rfl, rfl⟩)) | (cases hn; (first | done | fail)))))))))
  all_goals try (refine EW.nm ?_)
  all_goals try (first | refine EW.eRegL (id := 12) ?_ | refine EW.eReg (id := 12) ?_)
  all_goals try (first | refine EW.eBuild EV.wide_like (id := 12) (d := 38) ?_)
  all_goals try (first | refine EW.eStoreW EV.wide_like (id := 12) (k := 4) ?_ | refine EW.eStore EV.wide_like (id := 12) (k := 4) ?_)
  all_goals try (refine EW.eEnd (id := 12) ?_)
  all_goals try (refine EW.nm ?_)
  · have h1 : rleast l = l.getD i Px.zero := by
      have hk2 : k = l.length := by omega
      subst hk2
      have := find_at (p := fun p => l.all fun q => !decide (q.ahead p)) l i (by omega) (by rw [← firstK_all]; exact hb') (fun j hj => by rw [← firstK_all]; exact hp j hj)
      rw [rleast, this]
    rw [h1] at hR
    (refine EW.eLeaveN [] hR (by first | exact .inl rfl | exact .inr rfl) (by rfl) (by rfl) ?_ ?_ rfl rfl (by (((repeat (first | exact EW.NL.emp | (refine EW.NL.upd ?_ rfl) | refine EW.NL.drp ?_ | refine EW.NL.hp ?_ | refine EW.NL.argS ?_ | refine EW.NL.mix ?_)); (first | done | fail)))) rfl rfl; rotate_left 1; (· ((repeat (first | exact EW.atE.nil | refine EW.atE.lt rfl ?_ | refine EW.atE.lf ?_ | refine EW.atE.b rfl EW.SameB.refl ?_ | (refine EW.atE.b rfl ?_ ?_; rotate_left 1))))))
    all_goals rfl
  · have h1 : rleast l = ⟨16777216, 0, 0, 0⟩ := by
      have := find_none (p := fun p => l.all fun q => !decide (q.ahead p)) l (fun j hj => by rw [← firstK_all]; exact hp j (by omega))
      rw [rleast, this]
    rw [h1] at hR
    (refine EW.eLeaveN [] hR (by first | exact .inl rfl | exact .inr rfl) (by rfl) (by rfl) ?_ ?_ rfl rfl (by (((repeat (first | exact EW.NL.emp | (refine EW.NL.upd ?_ rfl) | refine EW.NL.drp ?_ | refine EW.NL.hp ?_ | refine EW.NL.argS ?_ | refine EW.NL.mix ?_)); (first | done | fail)))) rfl rfl; rotate_left 1; (· ((repeat (first | exact EW.atE.nil | refine EW.atE.lt rfl ?_ | refine EW.atE.lf ?_ | refine EW.atE.b rfl EW.SameB.refl ?_ | (refine EW.atE.b rfl ?_ ?_; rotate_left 1))))))
    all_goals rfl
end Go.Proofs.Ytjcabgoanlhhnaa
