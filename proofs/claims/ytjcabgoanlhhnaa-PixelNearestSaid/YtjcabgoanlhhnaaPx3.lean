/- Package pixel: lists of pixels; the document's Same. -/
import Derived.Test.YtjcabgoanlhhnaaPx2
import Derived.Test.YtjcabgoanlhhnaaEw4
namespace Go.Proofs.Ytjcabgoanlhhnaa
set_option linter.unusedSimpArgs false
set_option linter.unusedVariables false
open Go.RowKit EV
open SX (Wr Tv Qu Rm Sh Is conjP eqs_iff eqs_false)
open EW (PlL PlT PlV PlVs LfV Mm Bt Opn GV)
set_option maxRecDepth 20000
/-! ### Lists of pixels -/
def Px.vals (p : Px) : List Value := [.int .u32 p.z, .int .i64 p.o, .int .i64 p.t, .int .u32 p.c]
def pvs (l : List Px) : List Value := l.flatMap Px.vals
theorem pvs_length : ∀ l : List Px, (pvs l).length = l.length * 4
  | [] => rfl
  | p :: l => by
    have := pvs_length l
    simp only [pvs, List.flatMap_cons, List.length_append, List.length_cons] at this ⊢
    rw [this]; simp only [Px.vals, List.length_cons, List.length_nil]; omega
theorem pvs_cut : ∀ (l : List Px) (j : Nat) (h : j < l.length), ((pvs l).drop (j * 4)).take 4 = (l[j]).vals
  | p :: l, 0, _ => rfl
  | p :: l, j + 1, h => by
    have := pvs_cut l j (by simpa using h)
    rw [show (j + 1) * 4 = j * 4 + 1 + 1 + 1 + 1 by omega]
    simpa [pvs, Px.vals] using this
theorem pvs_put : ∀ (l : List Px) (j : Nat) (p : Px), j < l.length → putL (j * 4) p.vals (pvs l) = pvs (l.set j p)
  | q :: l, 0, p, _ => rfl
  | q :: l, j + 1, p, h => by
    have := pvs_put l j p (by simpa using h)
    rw [show (j + 1) * 4 = j * 4 + 1 + 1 + 1 + 1 by omega]
    simp only [pvs, List.flatMap_cons, List.set_cons_succ] at this ⊢
    simp only [Px.vals, List.cons_append, List.nil_append, putL]
    exact congrArg _ (congrArg _ (congrArg _ (congrArg _ this)))
theorem pvs_append (l m : List Px) : pvs l ++ pvs m = pvs (l ++ m) := by simp [pvs]
instance (l : List Px) : EW.RowV (pvs l) 4 l.length (fun j => (l.getD j Px.zero).vals) := ⟨pvs_length l, fun j h => by
  rw [pvs_cut l j h]; simp [List.getD_eq_getElem?_getD, List.getElem?_eq_getElem h]⟩
/-- Two lists of pixels in memory. -/
abbrev W2 (o o' : Bool) (xs ys : List Px) : Ws := [(.l 0, .l true), (.b 0, .b (.w o (pvs xs))), (.l 1, .l true), (.b 1, .b (.w o' (pvs ys)))]
theorem Px.ext4 {a b : Px} (h : a.z = b.z ∧ a.o = b.o ∧ a.t = b.t ∧ a.c = b.c) : a = b := by
  obtain ⟨z, o, t, c⟩ := a
  obtain ⟨z', o', t', c'⟩ := b
  obtain ⟨rfl, rfl, rfl, rfl⟩ := h; rfl
theorem list_of_getD {α : Type} {d : α} {xs ys : List α} (h : xs.length = ys.length) (hp : ∀ q, q < xs.length → xs.getD q d = ys.getD q d) : xs = ys := by
  refine List.ext_getElem h fun i h1 h2 => ?_
  have := hp i h1
  simpa [List.getD_eq_getElem?_getD, List.getElem?_eq_getElem h1, List.getElem?_eq_getElem h2] using this
theorem less_succ {p : Nat → Prop} {i : Nat} (h : ∀ q, q < i → p q) (hi : p i) : ∀ q, q < i + 1 → p q := fun q hq => by
  rcases Nat.lt_or_ge q i with h1 | h1
  · exact h q h1
  · rw [show q = i by omega]; exact hi
theorem same_ct (o o' : Bool) (xs ys : List Px) (k k' : Nat) (hxs : xs.length ≤ 100000000) : CT Try.prog 18 [.c (.s 0 0 xs.length k), .c (.s 1 0 ys.length k')] (upd EW.emp (W2 o o' xs ys)) 2 2 (.c (.v (.bool (decide (xs = ys))))) (upd (upd EW.emp (W2 o o' xs ys)) []) := by
  refine EW.ctEnter [10, 20, 30, 40, 50, 60, 70, 80, 90, 100, 110, 120, 130, 140, 150, 160, 170, 180, 190, 200, 210, 220, 230, 240, 250, 260, 270, 280, 290, 300, 310, 320, 330, 340, 350, 360, 370, 380, 390, 400, 410, 420, 430, 440, 450, 460, 470, 480, 490, 500, 510, 520, 530, 540, 550, 560, 570, 580, 590, 600] Try.func18 rfl Try.ntmps18 rfl (by (((repeat (first | exact EW.NL.emp | (refine EW.NL.upd ?_ rfl) | refine EW.NL.drp ?_ | refine EW.NL.hp ?_ | refine EW.NL.argS ?_ | refine EW.NL.mix ?_)); (first | done | fail)))) ?_; intro w0 tch ini R hR
  all_goals try (refine EW.nm ?_)
  all_goals try (first | refine EW.eRegL (id := 0) ?_ | refine EW.eReg (id := 0) ?_)
  all_goals try (first | refine EW.eAssign EV.wide_like (id := 0) (d := 4) ?_)
  all_goals try (refine EW.eEnd (id := 0) ?_)
  all_goals try (refine EW.nm ?_)
  all_goals try (first | refine EW.eRegL (id := 1) ?_ | refine EW.eReg (id := 1) ?_)
  all_goals try (first | refine EW.eMove EV.wide_like (id := 1) (d := 6) ?_)
  all_goals try (first | refine EW.eLenS EV.wide_like (id := 1) (d := 7) ?_ | refine EW.eLenG EV.wide_like (id := 1) (d := 7) ?_ | refine EW.eLenN EV.wide_like (id := 1) (d := 7) ?_)
  all_goals try (first | refine EW.eMove EV.wide_like (id := 1) (d := 8) ?_)
  all_goals try (first | refine EW.eLenS EV.wide_like (id := 1) (d := 9) ?_ | refine EW.eLenG EV.wide_like (id := 1) (d := 9) ?_ | refine EW.eLenN EV.wide_like (id := 1) (d := 9) ?_)
  all_goals try (first | refine EW.eNeq EV.wide_like (id := 1) (d := 10) ?_)
  all_goals try (refine EW.eEnd (id := 1) ?_)
  all_goals try (refine EW.nm ?_)
  all_goals try (first | refine EW.eYes (x := Operand.tmp 10) ?_ | refine EW.eNo (x := Operand.tmp 10) ?_ | (refine EW.eCond (x := Operand.tmp 10) ?_ ?_ <;> (intro hb hb'; (try dsimp only at hb'); (try (exfalso; first | omega | with_reducible exact absurd rfl hb')))))
  all_goals try (refine EW.nm ?_)
  all_goals try (first | refine EW.eRegL (id := 2) ?_ | refine EW.eReg (id := 2) ?_)
  all_goals try (first | refine EW.eAssign EV.wide_like (id := 2) (d := 4) ?_)
  all_goals try (refine EW.eEnd (id := 2) ?_)
  all_goals try (refine EW.nm ?_)
  all_goals try (first | refine EW.eRegL (id := 3) ?_ | refine EW.eReg (id := 3) ?_)
  all_goals try (first | refine EW.eAssign EV.wide_like (id := 3) (d := 5) ?_)
  all_goals try (refine EW.eEnd (id := 3) ?_)
  all_goals try (refine EW.nm ?_)
  all_goals first | (fail_if_success (refine EW.eUnroll 1 ?_)) | (refine EW.eLoopC [4, 5, 11, 12, 13, 14, 15, 16, 17, 18, 19, 20, 21, 22, 23, 24, 25] 1000000 (fun j : {i : Nat // i ≤ xs.length ∧ xs.length = ys.length ∧ ∀ q, q < i → xs.getD q Px.zero = ys.getD q Px.zero} => [(.t 5, .v (.c (.v (.int .i64 j.1))))]) (fun j => xs.length - j.1) (⟨0, by omega, by omega, fun q h => absurd h (by omega)⟩) (by (((repeat (first | exact EW.subW.nil | refine EW.subW.cons rfl ?_ | refine EW.subW.conv rfl ((by first | exact EW.kvI (by first | omega | (dsimp only; omega)) | exact EW.kvG (by first | omega | (simp only [List.length_cons, List.length_nil, List.length_append, List.length_map, List.length_set, List.length_replicate, List.length_take, List.length_drop, List.length_range, EV.putL_length, Nat.reduceAdd, Nat.reduceMul, Nat.reduceSub]; omega)) (by first | omega | (simp only [List.length_cons, List.length_nil, List.length_append, List.length_map, List.length_set, List.length_replicate, List.length_take, List.length_drop, List.length_range, EV.putL_length, Nat.reduceAdd, Nat.reduceMul, Nat.reduceSub]; omega)) | exact EW.kvB (by simp [*]) | exact EW.kvW (by (first | rfl | simp)) | rfl)) ?_)); (first | done | fail)))) (by ((first | exact EW.ClD.nl (by (((repeat (first | exact EW.NL.emp | (refine EW.NL.upd ?_ rfl) | refine EW.NL.drp ?_ | refine EW.NL.hp ?_ | refine EW.NL.argS ?_ | refine EW.NL.mix ?_)); (first | done | fail)))) | exact EW.ClD.nm (by ((repeat (first | exact EW.NM.emp | (refine EW.NM.upd ?_ rfl) | refine EW.NM.drp ?_)); (first | done | fail)))))) (fun _ => rfl) (by ((first | (intro j n hn; cases hn; (first | done | fail)) | (intro n hn; cases hn; (first | done | fail)) | (intro j n hn; (repeat (first | (rcases List.mem_cons.1 hn with rfl | hn; (focus exact ⟨rfl, rfl⟩)) | (cases hn; (first | done | fail))))) | (intro n hn; (repeat (first | (rcases List.mem_cons.1 hn with rfl | hn; (focus exact ⟨rfl, rfl⟩)) | (cases hn; (first | done | fail)))))))) ?_; rintro hcl4 ⟨i, hi, hl, hp⟩; (try dsimp only))
  all_goals try (refine EW.nm ?_)
  all_goals try (first | refine EW.eRegL (id := 4) ?_ | refine EW.eReg (id := 4) ?_)
  all_goals try (first | refine EW.eMove EV.wide_like (id := 4) (d := 11) ?_)
  all_goals try (first | refine EW.eMove EV.wide_like (id := 4) (d := 12) ?_)
  all_goals try (first | refine EW.eLenS EV.wide_like (id := 4) (d := 13) ?_ | refine EW.eLenG EV.wide_like (id := 4) (d := 13) ?_ | refine EW.eLenN EV.wide_like (id := 4) (d := 13) ?_)
  all_goals try (first | refine EW.eLss EV.wide_like (id := 4) (d := 14) ?_)
  all_goals try (refine EW.eEnd (id := 4) ?_)
  all_goals try (refine EW.nm ?_)
  all_goals try (first | refine EW.eYes (x := Operand.tmp 14) ?_ | refine EW.eNo (x := Operand.tmp 14) ?_ | (refine EW.eCond (x := Operand.tmp 14) ?_ ?_ <;> (intro hb hb'; (try dsimp only at hb'); (try (exfalso; first | omega | with_reducible exact absurd rfl hb')))))
  all_goals try (refine EW.nm ?_)
  all_goals try (first | refine EW.eRegL (id := 6) ?_ | refine EW.eReg (id := 6) ?_)
  all_goals try (first | refine EW.eMove EV.wide_like (id := 6) (d := 17) ?_)
  all_goals try (first | refine EW.eMove EV.wide_like (id := 6) (d := 18) ?_)
  all_goals try (first | refine EW.eIndexAddrS EV.wide_like (id := 6) (d := 19) (z := 4) ?_ | refine EW.eIndexAddrG EV.wide_like (id := 6) (d := 19) (z := 4) ?_)
  all_goals try (first | refine EW.eLoadA EV.wide_like (id := 6) (d := 20) (k := 4) ?_)
  all_goals try (first | refine EW.eMove EV.wide_like (id := 6) (d := 21) ?_)
  all_goals try (first | refine EW.eMove EV.wide_like (id := 6) (d := 22) ?_)
  all_goals try (first | refine EW.eIndexAddrS EV.wide_like (id := 6) (d := 23) (z := 4) ?_ | refine EW.eIndexAddrG EV.wide_like (id := 6) (d := 23) (z := 4) ?_)
  all_goals try (first | refine EW.eLoadA EV.wide_like (id := 6) (d := 24) (k := 4) ?_)
  all_goals try (first | refine EW.eNeqA EV.wide_like (id := 6) (d := 25) ?_)
  all_goals try (refine EW.eDraw (id := 6) EW.fok_wide' ?_)
  all_goals try (refine EW.nm ?_)
  all_goals try (first | refine EW.eYes (x := Operand.tmp 25) ?_ | refine EW.eNo (x := Operand.tmp 25) ?_ | (refine EW.eCond (x := Operand.tmp 25) ?_ ?_ <;> (intro hb hb'; (try dsimp only at hb'); (try (exfalso; first | omega | with_reducible exact absurd rfl hb')))))
  all_goals try (refine EW.nm ?_)
  all_goals try (first | refine EW.eRegL (id := 7) ?_ | refine EW.eReg (id := 7) ?_)
  all_goals try (first | refine EW.eAssign EV.wide_like (id := 7) (d := 4) ?_)
  all_goals try (refine EW.eEnd (id := 7) ?_)
  all_goals try (refine EW.nm ?_)
  all_goals try (first | refine EW.eRegL (id := 5) ?_ | refine EW.eReg (id := 5) ?_)
  all_goals try (first | refine EW.eMove EV.wide_like (id := 5) (d := 15) ?_)
  all_goals try (first | refine EW.eAdd EV.wide_like (id := 5) (d := 16) ?_)
  all_goals try (first | refine EW.eAssign EV.wide_like (id := 5) (d := 5) ?_)
  all_goals try (refine EW.eEnd (id := 5) ?_)
  all_goals try (refine EW.nm ?_)
  all_goals first | (fail_if_success (with_reducible refine EW.isLater ?_)) | (refine EW.eLater (⟨i + 1, by omega, hl, less_succ hp (Px.ext4 hb')⟩) (by dsimp only; omega) (by (((repeat (first | exact EW.subW.nil | refine EW.subW.cons rfl ?_ | refine EW.subW.conv rfl ((by first | exact EW.kvI (by first | omega | (dsimp only; omega)) | exact EW.kvG (by first | omega | (simp only [List.length_cons, List.length_nil, List.length_append, List.length_map, List.length_set, List.length_replicate, List.length_take, List.length_drop, List.length_range, EV.putL_length, Nat.reduceAdd, Nat.reduceMul, Nat.reduceSub]; omega)) (by first | omega | (simp only [List.length_cons, List.length_nil, List.length_append, List.length_map, List.length_set, List.length_replicate, List.length_take, List.length_drop, List.length_range, EV.putL_length, Nat.reduceAdd, Nat.reduceMul, Nat.reduceSub]; omega)) | exact EW.kvB (by simp [*]) | exact EW.kvW (by (first | rfl | simp)) | rfl)) ?_)); (first | done | fail)))) (by (((repeat (first | with_reducible exact EW.Frm.refl | refine EW.Frm.upd ?_ rfl | refine EW.Frm.drp ?_ (by decide) rfl)); (first | done | fail)))) (fun _ => rfl) hcl4 (by ((first | (intro j n hn; cases hn; (first | done | fail)) | (intro n hn; cases hn; (first | done | fail)) | (intro j n hn; (repeat (first | (rcases List.mem_cons.1 hn with rfl | hn; (focus exact ⟨rfl, rfl⟩)) | (cases hn; (first | done | fail))))) | (intro n hn; (repeat (first | (rcases List.mem_cons.1 hn with rfl | hn; (focus exact ⟨rfl, rfl⟩)) | (cases hn; (first | done | fail)))))))))
  all_goals try (refine EW.nm ?_)
  all_goals try (first | refine EW.eRegL (id := 8) ?_ | refine EW.eReg (id := 8) ?_)
  all_goals try (first | refine EW.eAssign EV.wide_like (id := 8) (d := 4) ?_)
  all_goals try (refine EW.eEnd (id := 8) ?_)
  all_goals try (refine EW.nm ?_)
  all_goals (refine EW.eLeaveN [] hR (by first | exact .inl rfl | exact .inr rfl) (by rfl) (by rfl) ?_ ?_ rfl rfl (by (((repeat (first | exact EW.NL.emp | (refine EW.NL.upd ?_ rfl) | refine EW.NL.drp ?_ | refine EW.NL.hp ?_ | refine EW.NL.argS ?_ | refine EW.NL.mix ?_)); (first | done | fail)))) rfl rfl; rotate_left 1; (· ((repeat (first | exact EW.atE.nil | refine EW.atE.lt rfl ?_ | refine EW.atE.lf ?_ | refine EW.atE.b rfl EW.SameB.refl ?_ | (refine EW.atE.b rfl ?_ ?_; rotate_left 1))))))
  all_goals refine congrArg (fun b => V.c (C.v (Value.bool b))) ?_
  all_goals first | exact (decide_eq_true (list_of_getD hl fun q hq => hp q (by omega))).symm | (refine (decide_eq_false fun h => ?_).symm; subst h; omega) | (refine (decide_eq_false fun h => ?_).symm; subst h; exact hb' ⟨rfl, rfl, rfl, rfl⟩)
theorem same_ctG (o o' : Bool) (xs ys : List Px) (k' : Nat) (hxs : xs.length ≤ 100000000) : CT Try.prog 18 [.c (.g 0 0 xs.length xs.length 4), .c (.s 1 0 ys.length k')] (upd EW.emp (W2 o o' xs ys)) 2 2 (.c (.v (.bool (decide (xs = ys))))) (upd (upd EW.emp (W2 o o' xs ys)) []) := by
  refine EW.ctEnter [10, 20, 30, 40, 50, 60, 70, 80, 90, 100, 110, 120, 130, 140, 150, 160, 170, 180, 190, 200, 210, 220, 230, 240, 250, 260, 270, 280, 290, 300, 310, 320, 330, 340, 350, 360, 370, 380, 390, 400, 410, 420, 430, 440, 450, 460, 470, 480, 490, 500, 510, 520, 530, 540, 550, 560, 570, 580, 590, 600] Try.func18 rfl Try.ntmps18 rfl (by (((repeat (first | exact EW.NL.emp | (refine EW.NL.upd ?_ rfl) | refine EW.NL.drp ?_ | refine EW.NL.hp ?_ | refine EW.NL.argS ?_ | refine EW.NL.mix ?_)); (first | done | fail)))) ?_; intro w0 tch ini R hR
  all_goals try (refine EW.nm ?_)
  all_goals try (first | refine EW.eRegL (id := 0) ?_ | refine EW.eReg (id := 0) ?_)
  all_goals try (first | refine EW.eAssign EV.wide_like (id := 0) (d := 4) ?_)
  all_goals try (refine EW.eEnd (id := 0) ?_)
  all_goals try (refine EW.nm ?_)
  all_goals try (first | refine EW.eRegL (id := 1) ?_ | refine EW.eReg (id := 1) ?_)
  all_goals try (first | refine EW.eMove EV.wide_like (id := 1) (d := 6) ?_)
  all_goals try (first | refine EW.eLenS EV.wide_like (id := 1) (d := 7) ?_ | refine EW.eLenG EV.wide_like (id := 1) (d := 7) ?_ | refine EW.eLenN EV.wide_like (id := 1) (d := 7) ?_)
  all_goals try (first | refine EW.eMove EV.wide_like (id := 1) (d := 8) ?_)
  all_goals try (first | refine EW.eLenS EV.wide_like (id := 1) (d := 9) ?_ | refine EW.eLenG EV.wide_like (id := 1) (d := 9) ?_ | refine EW.eLenN EV.wide_like (id := 1) (d := 9) ?_)
  all_goals try (first | refine EW.eNeq EV.wide_like (id := 1) (d := 10) ?_)
  all_goals try (refine EW.eEnd (id := 1) ?_)
  all_goals try (refine EW.nm ?_)
  all_goals try (first | refine EW.eYes (x := Operand.tmp 10) ?_ | refine EW.eNo (x := Operand.tmp 10) ?_ | (refine EW.eCond (x := Operand.tmp 10) ?_ ?_ <;> (intro hb hb'; (try dsimp only at hb'); (try (exfalso; first | omega | with_reducible exact absurd rfl hb')))))
  all_goals try (refine EW.nm ?_)
  all_goals try (first | refine EW.eRegL (id := 2) ?_ | refine EW.eReg (id := 2) ?_)
  all_goals try (first | refine EW.eAssign EV.wide_like (id := 2) (d := 4) ?_)
  all_goals try (refine EW.eEnd (id := 2) ?_)
  all_goals try (refine EW.nm ?_)
  all_goals try (first | refine EW.eRegL (id := 3) ?_ | refine EW.eReg (id := 3) ?_)
  all_goals try (first | refine EW.eAssign EV.wide_like (id := 3) (d := 5) ?_)
  all_goals try (refine EW.eEnd (id := 3) ?_)
  all_goals try (refine EW.nm ?_)
  all_goals first | (fail_if_success (refine EW.eUnroll 1 ?_)) | (refine EW.eLoopC [4, 5, 11, 12, 13, 14, 15, 16, 17, 18, 19, 20, 21, 22, 23, 24, 25] 1000000 (fun j : {i : Nat // i ≤ xs.length ∧ xs.length = ys.length ∧ ∀ q, q < i → xs.getD q Px.zero = ys.getD q Px.zero} => [(.t 5, .v (.c (.v (.int .i64 j.1))))]) (fun j => xs.length - j.1) (⟨0, by omega, by omega, fun q h => absurd h (by omega)⟩) (by (((repeat (first | exact EW.subW.nil | refine EW.subW.cons rfl ?_ | refine EW.subW.conv rfl ((by first | exact EW.kvI (by first | omega | (dsimp only; omega)) | exact EW.kvG (by first | omega | (simp only [List.length_cons, List.length_nil, List.length_append, List.length_map, List.length_set, List.length_replicate, List.length_take, List.length_drop, List.length_range, EV.putL_length, Nat.reduceAdd, Nat.reduceMul, Nat.reduceSub]; omega)) (by first | omega | (simp only [List.length_cons, List.length_nil, List.length_append, List.length_map, List.length_set, List.length_replicate, List.length_take, List.length_drop, List.length_range, EV.putL_length, Nat.reduceAdd, Nat.reduceMul, Nat.reduceSub]; omega)) | exact EW.kvB (by simp [*]) | exact EW.kvW (by (first | rfl | simp)) | rfl)) ?_)); (first | done | fail)))) (by ((first | exact EW.ClD.nl (by (((repeat (first | exact EW.NL.emp | (refine EW.NL.upd ?_ rfl) | refine EW.NL.drp ?_ | refine EW.NL.hp ?_ | refine EW.NL.argS ?_ | refine EW.NL.mix ?_)); (first | done | fail)))) | exact EW.ClD.nm (by ((repeat (first | exact EW.NM.emp | (refine EW.NM.upd ?_ rfl) | refine EW.NM.drp ?_)); (first | done | fail)))))) (fun _ => rfl) (by ((first | (intro j n hn; cases hn; (first | done | fail)) | (intro n hn; cases hn; (first | done | fail)) | (intro j n hn; (repeat (first | (rcases List.mem_cons.1 hn with rfl | hn; (focus exact ⟨rfl, rfl⟩)) | (cases hn; (first | done | fail))))) | (intro n hn; (repeat (first | (rcases List.mem_cons.1 hn with rfl | hn; (focus exact ⟨rfl, rfl⟩)) | (cases hn; (first | done | fail)))))))) ?_; rintro hcl4 ⟨i, hi, hl, hp⟩; (try dsimp only))
  all_goals try (refine EW.nm ?_)
  all_goals try (first | refine EW.eRegL (id := 4) ?_ | refine EW.eReg (id := 4) ?_)
  all_goals try (first | refine EW.eMove EV.wide_like (id := 4) (d := 11) ?_)
  all_goals try (first | refine EW.eMove EV.wide_like (id := 4) (d := 12) ?_)
  all_goals try (first | refine EW.eLenS EV.wide_like (id := 4) (d := 13) ?_ | refine EW.eLenG EV.wide_like (id := 4) (d := 13) ?_ | refine EW.eLenN EV.wide_like (id := 4) (d := 13) ?_)
  all_goals try (first | refine EW.eLss EV.wide_like (id := 4) (d := 14) ?_)
  all_goals try (refine EW.eEnd (id := 4) ?_)
  all_goals try (refine EW.nm ?_)
  all_goals try (first | refine EW.eYes (x := Operand.tmp 14) ?_ | refine EW.eNo (x := Operand.tmp 14) ?_ | (refine EW.eCond (x := Operand.tmp 14) ?_ ?_ <;> (intro hb hb'; (try dsimp only at hb'); (try (exfalso; first | omega | with_reducible exact absurd rfl hb')))))
  all_goals try (refine EW.nm ?_)
  all_goals try (first | refine EW.eRegL (id := 6) ?_ | refine EW.eReg (id := 6) ?_)
  all_goals try (first | refine EW.eMove EV.wide_like (id := 6) (d := 17) ?_)
  all_goals try (first | refine EW.eMove EV.wide_like (id := 6) (d := 18) ?_)
  all_goals try (first | refine EW.eIndexAddrS EV.wide_like (id := 6) (d := 19) (z := 4) ?_ | refine EW.eIndexAddrG EV.wide_like (id := 6) (d := 19) (z := 4) ?_)
  all_goals try (first | refine EW.eLoadA EV.wide_like (id := 6) (d := 20) (k := 4) ?_)
  all_goals try (first | refine EW.eMove EV.wide_like (id := 6) (d := 21) ?_)
  all_goals try (first | refine EW.eMove EV.wide_like (id := 6) (d := 22) ?_)
  all_goals try (first | refine EW.eIndexAddrS EV.wide_like (id := 6) (d := 23) (z := 4) ?_ | refine EW.eIndexAddrG EV.wide_like (id := 6) (d := 23) (z := 4) ?_)
  all_goals try (first | refine EW.eLoadA EV.wide_like (id := 6) (d := 24) (k := 4) ?_)
  all_goals try (first | refine EW.eNeqA EV.wide_like (id := 6) (d := 25) ?_)
  all_goals try (refine EW.eDraw (id := 6) EW.fok_wide' ?_)
  all_goals try (refine EW.nm ?_)
  all_goals try (first | refine EW.eYes (x := Operand.tmp 25) ?_ | refine EW.eNo (x := Operand.tmp 25) ?_ | (refine EW.eCond (x := Operand.tmp 25) ?_ ?_ <;> (intro hb hb'; (try dsimp only at hb'); (try (exfalso; first | omega | with_reducible exact absurd rfl hb')))))
  all_goals try (refine EW.nm ?_)
  all_goals try (first | refine EW.eRegL (id := 7) ?_ | refine EW.eReg (id := 7) ?_)
  all_goals try (first | refine EW.eAssign EV.wide_like (id := 7) (d := 4) ?_)
  all_goals try (refine EW.eEnd (id := 7) ?_)
  all_goals try (refine EW.nm ?_)
  all_goals try (first | refine EW.eRegL (id := 5) ?_ | refine EW.eReg (id := 5) ?_)
  all_goals try (first | refine EW.eMove EV.wide_like (id := 5) (d := 15) ?_)
  all_goals try (first | refine EW.eAdd EV.wide_like (id := 5) (d := 16) ?_)
  all_goals try (first | refine EW.eAssign EV.wide_like (id := 5) (d := 5) ?_)
  all_goals try (refine EW.eEnd (id := 5) ?_)
  all_goals try (refine EW.nm ?_)
  all_goals first | (fail_if_success (with_reducible refine EW.isLater ?_)) | (refine EW.eLater (⟨i + 1, by omega, hl, less_succ hp (Px.ext4 hb')⟩) (by dsimp only; omega) (by (((repeat (first | exact EW.subW.nil | refine EW.subW.cons rfl ?_ | refine EW.subW.conv rfl ((by first | exact EW.kvI (by first | omega | (dsimp only; omega)) | exact EW.kvG (by first | omega | (simp only [List.length_cons, List.length_nil, List.length_append, List.length_map, List.length_set, List.length_replicate, List.length_take, List.length_drop, List.length_range, EV.putL_length, Nat.reduceAdd, Nat.reduceMul, Nat.reduceSub]; omega)) (by first | omega | (simp only [List.length_cons, List.length_nil, List.length_append, List.length_map, List.length_set, List.length_replicate, List.length_take, List.length_drop, List.length_range, EV.putL_length, Nat.reduceAdd, Nat.reduceMul, Nat.reduceSub]; omega)) | exact EW.kvB (by simp [*]) | exact EW.kvW (by (first | rfl | simp)) | rfl)) ?_)); (first | done | fail)))) (by (((repeat (first | with_reducible exact EW.Frm.refl | refine EW.Frm.upd ?_ rfl | refine EW.Frm.drp ?_ (by decide) rfl)); (first | done | fail)))) (fun _ => rfl) hcl4 (by ((first | (intro j n hn; cases hn; (first | done | fail)) | (intro n hn; cases hn; (first | done | fail)) | (intro j n hn; (repeat (first | (rcases List.mem_cons.1 hn with rfl | hn; (focus exact ⟨rfl, rfl⟩)) | (cases hn; (first | done | fail))))) | (intro n hn; (repeat (first | (rcases List.mem_cons.1 hn with rfl | hn; (focus exact ⟨rfl, rfl⟩)) | (cases hn; (first | done | fail)))))))))
  all_goals try (refine EW.nm ?_)
  all_goals try (first | refine EW.eRegL (id := 8) ?_ | refine EW.eReg (id := 8) ?_)
  all_goals try (first | refine EW.eAssign EV.wide_like (id := 8) (d := 4) ?_)
  all_goals try (refine EW.eEnd (id := 8) ?_)
  all_goals try (refine EW.nm ?_)
  all_goals (refine EW.eLeaveN [] hR (by first | exact .inl rfl | exact .inr rfl) (by rfl) (by rfl) ?_ ?_ rfl rfl (by (((repeat (first | exact EW.NL.emp | (refine EW.NL.upd ?_ rfl) | refine EW.NL.drp ?_ | refine EW.NL.hp ?_ | refine EW.NL.argS ?_ | refine EW.NL.mix ?_)); (first | done | fail)))) rfl rfl; rotate_left 1; (· ((repeat (first | exact EW.atE.nil | refine EW.atE.lt rfl ?_ | refine EW.atE.lf ?_ | refine EW.atE.b rfl EW.SameB.refl ?_ | (refine EW.atE.b rfl ?_ ?_; rotate_left 1))))))
  all_goals refine congrArg (fun b => V.c (C.v (Value.bool b))) ?_
  all_goals first | exact (decide_eq_true (list_of_getD hl fun q hq => hp q (by omega))).symm | (refine (decide_eq_false fun h => ?_).symm; subst h; omega) | (refine (decide_eq_false fun h => ?_).symm; subst h; exact hb' ⟨rfl, rfl, rfl, rfl⟩)
end Go.Proofs.Ytjcabgoanlhhnaa
