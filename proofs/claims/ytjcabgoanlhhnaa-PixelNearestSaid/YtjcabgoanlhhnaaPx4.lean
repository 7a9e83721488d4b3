/- Package pixel: runs, Least. -/
import Derived.Test.YtjcabgoanlhhnaaPx3
import Derived.Test.YtjcabgoanlhhnaaEw5
namespace Go.Proofs.Ytjcabgoanlhhnaa
set_option linter.unusedSimpArgs false
set_option linter.unusedVariables false
open Go.RowKit EV
open SX (Wr Tv Qu Rm Sh Is conjP eqs_iff eqs_false)
open EW (PlL PlT PlV PlVs LfV Mm Bt Opn GV YT lpOf)
set_option maxRecDepth 20000
abbrev Px.cs (p : Px) : List C := [.v (.int .u32 p.z), .v (.int .i64 p.o), .v (.int .i64 p.t), .v (.int .u32 p.c)]
/-- The loop of Least: its record, what has come out. -/
noncomputable def lpL (o d : Nat) : LoopK := lpOf Try.f12 0 [(2, .c (.p o 0))] d
noncomputable def WL (q : Px) : Ws := [(.l 0, .l true), (.b 0, .b (.lp (lpL 1 2))), (.l 1, .l true), (.b 1, .b (.m true q.cs)), (.l 2, .l true), (.b 2, .b .df)]
theorem least_round (p q : Px) : YT Try.prog [.a p.cs] (upd EW.emp (WL q)) 3 3 none (upd (upd EW.emp (WL q)) [(.b 1, .b (.m true p.cs))]) := by
  obtain ⟨z, o, t, c⟩ := p
  obtain ⟨z', o', t', c'⟩ := q
  refine EW.ytEnter (ws := [(.t 6, .v (.a (Px.cs ⟨z, o, t, c⟩))), (.t 2, .v (.c (.p 1 0)))]) [10, 20, 30, 40, 50, 60, 70, 80, 90, 100, 110, 120, 130, 140, 150, 160, 170, 180, 190, 200, 210, 220, 230, 240, 250, 260, 270, 280, 290, 300, 310, 320, 330, 340, 350, 360, 370, 380, 390, 400, 410, 420, 430, 440, 450, 460, 470, 480, 490, 500, 510, 520, 530, 540, 550, 560, 570, 580, 590, 600] rfl rfl (by (((repeat (first | exact EW.NL.emp | (refine EW.NL.upd ?_ rfl) | refine EW.NL.drp ?_ | refine EW.NL.hp ?_ | refine EW.NL.argS ?_ | refine EW.NL.mix ?_)); (first | done | fail)))) rfl rfl rfl rfl rfl rfl ⟨rfl⟩ ?_; intro w0 tch ini nn R hR
  all_goals try (refine EW.nm ?_)
  all_goals try (first | refine EW.eRegL (id := 2) ?_ | refine EW.eReg (id := 2) ?_)
  all_goals try (first | refine EW.eAlloc (EV.round_like _) (id := 2) (d := 3) ?_)
  all_goals try (first | refine EW.eStoreW (EV.round_like _) (id := 2) (k := 4) ?_ | refine EW.eStore (EV.round_like _) (id := 2) (k := 4) ?_)
  all_goals try (refine EW.eEnd (id := 2) ?_)
  all_goals try (refine EW.nm ?_)
  all_goals try (refine EW.eBegin rfl rfl rfl rfl ?_)
  all_goals try (refine EW.nm ?_)
  all_goals try (first | refine EW.eRegL (id := 3) ?_ | refine EW.eReg (id := 3) ?_)
  all_goals try (first | refine EW.eLoadA (EV.round_like _) (id := 3) (d := 7) (k := 4) ?_)
  all_goals try (first | refine EW.eStoreW (EV.round_like _) (id := 3) (k := 4) ?_ | refine EW.eStore (EV.round_like _) (id := 3) (k := 4) ?_)
  all_goals try (refine EW.eEnd (id := 3) ?_)
  all_goals try (refine EW.nm ?_)
  all_goals (refine EW.eRoundEnd [] hR rfl rfl rfl rfl ?_ rfl rfl (by (((repeat (first | exact EW.NL.emp | (refine EW.NL.upd ?_ rfl) | refine EW.NL.drp ?_ | refine EW.NL.hp ?_ | refine EW.NL.argS ?_ | refine EW.NL.mix ?_)); (first | done | fail)))) rfl; (· ((repeat (first | exact EW.atE.nil | refine EW.atE.lt rfl ?_ | refine EW.atE.lf ?_ | refine EW.atE.b rfl EW.SameB.refl ?_ | (refine EW.atE.b rfl ?_ ?_; rotate_left 1))))))
/-- The nearest of the first ones. -/
def nearI (l : List Px) (i : Nat) : Px := (l.take i).foldl Px.near (l.getD 0 Px.zero)
def least (l : List Px) : Px := match l with
  | [] => ⟨16777216, 0, 0, 0⟩
  | p :: r => (p :: r).foldl Px.near p
theorem nearI_succ (l : List Px) (i : Nat) (h : i < l.length) : nearI l (i + 1) = (nearI l i).near (l.getD i Px.zero) := by
  unfold nearI
  rw [List.take_add_one, List.foldl_append, List.getElem?_eq_getElem h]
  simp [List.getD_eq_getElem?_getD, List.getElem?_eq_getElem h]
theorem nearI_all (l : List Px) (h : 0 < l.length) : nearI l l.length = least l := by
  cases l with
  | nil => simp at h
  | cons p r => simp [nearI, least]
/-- What stands in the out block after i rounds. -/
def outI (l : List Px) (q : Px) (i : Nat) : Px := if i = 0 then q else nearI l i
noncomputable def WR (o : Bool) (A : C) (l : List Px) (q : Px) : Ws := [(.l 0, .l true), (.b 0, .b (.lp (lpL 3 4))), (.l 1, .l true), (.b 1, .b (.m true [A])), (.l 2, .l true), (.b 2, .b (.w o (pvs l))), (.l 3, .l true), (.b 3, .b (.m true q.cs)), (.l 4, .l true), (.b 4, .b .df)]
theorem px_eta (p : Px) : p = ⟨p.z, p.o, p.t, p.c⟩ := rfl
theorem near_is (a b r : Px) (w : World) (h : a.near b = r) : Calls Try.prog 8 #[a.val, b.val] w fun e w' => e = .returned r.val ∧ Below w.heap.size w w' := h ▸ pnear a b w
theorem runs_ctS (o : Bool) (l : List Px) (q : Px) (k : Nat) (hl : l.length ≤ 100000000) : CT Try.prog 48 [.c (.y 0), .c (.p 1 0)] (upd EW.emp (WR o (.s 2 0 l.length k) l q)) 5 5 (.t []) (upd (upd EW.emp (WR o (.s 2 0 l.length k) l q)) [(.b 3, .b (.m true (least l).cs))]) := by
  refine EW.ctEnter [10, 20, 30, 40, 50, 60, 70, 80, 90, 100, 110, 120, 130, 140, 150, 160, 170, 180, 190, 200, 210, 220, 230, 240, 250, 260, 270, 280, 290, 300, 310, 320, 330, 340, 350, 360, 370, 380, 390, 400, 410, 420, 430, 440, 450, 460, 470, 480, 490, 500, 510, 520, 530, 540, 550, 560, 570, 580, 590, 600] Try.func48 rfl Try.ntmps48 rfl (by (((repeat (first | exact EW.NL.emp | (refine EW.NL.upd ?_ rfl) | refine EW.NL.drp ?_ | refine EW.NL.hp ?_ | refine EW.NL.argS ?_ | refine EW.NL.mix ?_)); (first | done | fail)))) ?_; intro w0 tch ini R hR
  all_goals try (refine EW.nm ?_)
  all_goals try (first | refine EW.eRegL (id := 0) ?_ | refine EW.eReg (id := 0) ?_)
  all_goals try (first | refine EW.eLoad1 EV.wide_like (id := 0) (d := 6) ?_)
  all_goals try (first | refine EW.eLenS EV.wide_like (id := 0) (d := 7) ?_ | refine EW.eLenG EV.wide_like (id := 0) (d := 7) ?_ | refine EW.eLenN EV.wide_like (id := 0) (d := 7) ?_)
  all_goals try (first | refine EW.eEql EV.wide_like (id := 0) (d := 8) ?_)
  all_goals try (refine EW.eEnd (id := 0) ?_)
  all_goals try (refine EW.nm ?_)
  all_goals try (first | refine EW.eYes (x := Operand.tmp 8) ?_ | refine EW.eNo (x := Operand.tmp 8) ?_ | (refine EW.eCond (x := Operand.tmp 8) ?_ ?_ <;> (intro hb hb'; (try dsimp only at hb'); (try (exfalso; first | omega | with_reducible exact absurd rfl hb')))))
  all_goals try (refine EW.nm ?_)
  all_goals try (first | refine EW.eRegL (id := 1) ?_ | refine EW.eReg (id := 1) ?_)
  all_goals try (first | refine EW.eMove EV.wide_like (id := 1) (d := 9) ?_)
  all_goals try (first | refine EW.eCall EV.wide_like (id := 1) Try.call11 (fun w => pempty w) ?_)
  all_goals try (first | (refine EW.eYieldN [0, 3, 4] EV.wide_like (id := 1) (least_round ⟨_, _, _, _⟩ ⟨_, _, _, _⟩) ?_))
  all_goals try (refine EW.eEnd (id := 1) ?_)
  all_goals try (refine EW.nm ?_)
  all_goals try (first | refine EW.eRegL (id := 2) ?_ | refine EW.eReg (id := 2) ?_)
  all_goals try (first | refine EW.eLoad1 EV.wide_like (id := 2) (d := 12) ?_)
  all_goals try (first | refine EW.eIndexAddrS EV.wide_like (id := 2) (d := 13) (z := 4) ?_ | refine EW.eIndexAddrG EV.wide_like (id := 2) (d := 13) (z := 4) ?_)
  all_goals try (first | refine EW.eLoadA EV.wide_like (id := 2) (d := 14) (k := 4) ?_)
  all_goals try (first | refine EW.eAlloc EV.wide_like (id := 2) (d := 3) ?_)
  all_goals try (first | refine EW.eStoreW EV.wide_like (id := 2) (k := 4) ?_ | refine EW.eStore EV.wide_like (id := 2) (k := 4) ?_)
  all_goals try (refine EW.eEnd (id := 2) ?_)
  all_goals try (refine EW.nm ?_)
  all_goals try (first | refine EW.eRegL (id := 3) ?_ | refine EW.eReg (id := 3) ?_)
  all_goals try (first | refine EW.eLoad1 EV.wide_like (id := 3) (d := 15) ?_)
  all_goals try (first | refine EW.eLenS EV.wide_like (id := 3) (d := 16) ?_ | refine EW.eLenG EV.wide_like (id := 3) (d := 16) ?_ | refine EW.eLenN EV.wide_like (id := 3) (d := 16) ?_)
  all_goals try (first | refine EW.eMove EV.wide_like (id := 3) (d := 17) ?_)
  all_goals try (refine EW.eEnd (id := 3) ?_)
  all_goals try (refine EW.nm ?_)
  all_goals first | (fail_if_success (refine EW.eUnroll 1 ?_)) | (refine EW.eLoopC [5, 17, 18, 19, 20, 21, 22, 23, 24, 25, 26, 27, 28] 20 (fun j : {i : Nat // i ≤ l.length} => [(.t 17, .v (.c (.v (.int .i64 j.1)))), (.b 10, .b (.m true (nearI l j.1).cs)), (.b 3, .b (.m true (outI l q j.1).cs))]) (fun j => l.length - j.1) (⟨0, by omega⟩) (by (((repeat (first | exact EW.subW.nil | refine EW.subW.cons rfl ?_ | refine EW.subW.conv rfl ((by first | exact EW.kvI (by first | omega | (dsimp only; omega)) | exact EW.kvG (by first | omega | (simp only [List.length_cons, List.length_nil, List.length_append, List.length_map, List.length_set, List.length_replicate, List.length_take, List.length_drop, List.length_range, EV.putL_length, Nat.reduceAdd, Nat.reduceMul, Nat.reduceSub]; omega)) (by first | omega | (simp only [List.length_cons, List.length_nil, List.length_append, List.length_map, List.length_set, List.length_replicate, List.length_take, List.length_drop, List.length_range, EV.putL_length, Nat.reduceAdd, Nat.reduceMul, Nat.reduceSub]; omega)) | exact EW.kvB (by simp [*]) | exact EW.kvW (by (first | rfl | simp)) | rfl)) ?_)); (first | done | fail)))) (by ((first | exact EW.ClD.nl (by (((repeat (first | exact EW.NL.emp | (refine EW.NL.upd ?_ rfl) | refine EW.NL.drp ?_ | refine EW.NL.hp ?_ | refine EW.NL.argS ?_ | refine EW.NL.mix ?_)); (first | done | fail)))) | exact EW.ClD.nm (by ((repeat (first | exact EW.NM.emp | (refine EW.NM.upd ?_ rfl) | refine EW.NM.drp ?_)); (first | done | fail)))))) (fun _ => rfl) (by ((first | (intro j n hn; cases hn; (first | done | fail)) | (intro n hn; cases hn; (first | done | fail)) | (intro j n hn; (repeat (first | (rcases List.mem_cons.1 hn with rfl | hn; (focus exact ⟨rfl, rfl⟩)) | (cases hn; (first | done | fail))))) | (intro n hn; (repeat (first | (rcases List.mem_cons.1 hn with rfl | hn; (focus exact ⟨rfl, rfl⟩)) | (cases hn; (first | done | fail)))))))) ?_; rintro hcl4 ⟨i, hi⟩; (try dsimp only))
  all_goals try (refine EW.nm ?_)
  all_goals try (first | refine EW.eRegL (id := 4) ?_ | refine EW.eReg (id := 4) ?_)
  all_goals try (first | refine EW.eLss EV.wide_like (id := 4) (d := 18) ?_)
  all_goals try (refine EW.eEnd (id := 4) ?_)
  all_goals try (refine EW.nm ?_)
  all_goals try (first | refine EW.eYes (x := Operand.tmp 18) ?_ | refine EW.eNo (x := Operand.tmp 18) ?_ | (refine EW.eCond (x := Operand.tmp 18) ?_ ?_ <;> (intro hb hb'; (try dsimp only at hb'); (try (exfalso; first | omega | with_reducible exact absurd rfl hb')))))
  all_goals try (refine EW.nm ?_)
  all_goals try (first | refine EW.eRegL (id := 5) ?_ | refine EW.eReg (id := 5) ?_)
  all_goals try (first | refine EW.eIndexAddrS EV.wide_like (id := 5) (d := 19) (z := 4) ?_ | refine EW.eIndexAddrG EV.wide_like (id := 5) (d := 19) (z := 4) ?_)
  all_goals try (first | refine EW.eLoadA EV.wide_like (id := 5) (d := 20) (k := 4) ?_)
  all_goals try (first | refine EW.eAlloc EV.wide_like (id := 5) (d := 5) ?_)
  all_goals try (first | refine EW.eStoreW EV.wide_like (id := 5) (k := 4) ?_ | refine EW.eStore EV.wide_like (id := 5) (k := 4) ?_)
  all_goals try (refine EW.eEnd (id := 5) ?_)
  all_goals try (refine EW.nm ?_)
  all_goals try (first | refine EW.eRegL (id := 6) ?_ | refine EW.eReg (id := 6) ?_)
  all_goals try (first | refine EW.eLoadA EV.wide_like (id := 6) (d := 21) (k := 4) ?_)
  all_goals try (first | refine EW.eLoadA EV.wide_like (id := 6) (d := 22) (k := 4) ?_)
  all_goals try (first | refine EW.eCall EV.wide_like (id := 6) Try.call8 (fun w => near_is ⟨_, _, _, _⟩ ⟨_, _, _, _⟩ (nearI l (i + 1)) w (nearI_succ l i (by omega)).symm) ?_)
  all_goals try (first | refine EW.eStoreW EV.wide_like (id := 6) (k := 4) ?_ | refine EW.eStore EV.wide_like (id := 6) (k := 4) ?_)
  all_goals try (refine EW.eEnd (id := 6) ?_)
  all_goals try (refine EW.nm ?_)
  all_goals try (first | refine EW.eRegL (id := 7) ?_ | refine EW.eReg (id := 7) ?_)
  all_goals try (first | refine EW.eMove EV.wide_like (id := 7) (d := 24) ?_)
  all_goals try (first | refine EW.eLoadA EV.wide_like (id := 7) (d := 25) (k := 4) ?_)
  all_goals try (first | (refine EW.eYieldN [0, 3, 4] EV.wide_like (id := 7) (least_round ⟨_, _, _, _⟩ ⟨_, _, _, _⟩) ?_))
  all_goals try (first | refine EW.eNot EV.wide_like (id := 7) (d := 27) ?_)
  all_goals try (refine EW.eEnd (id := 7) ?_)
  all_goals try (refine EW.nm ?_)
  all_goals try (first | refine EW.eYes (x := Operand.tmp 27) ?_ | refine EW.eNo (x := Operand.tmp 27) ?_ | (refine EW.eCond (x := Operand.tmp 27) ?_ ?_ <;> (intro hb hb'; (try dsimp only at hb'); (try (exfalso; first | omega | with_reducible exact absurd rfl hb')))))
  all_goals try (refine EW.nm ?_)
  all_goals try (first | refine EW.eRegL (id := 8) ?_ | refine EW.eReg (id := 8) ?_)
  all_goals try (first | refine EW.eAdd EV.wide_like (id := 8) (d := 28) ?_)
  all_goals try (first | refine EW.eMove EV.wide_like (id := 8) (d := 17) ?_)
  all_goals try (refine EW.eEnd (id := 8) ?_)
  all_goals try (refine EW.nm ?_)
  all_goals first | (fail_if_success (with_reducible refine EW.isLater ?_)) | (refine EW.eLater (⟨i + 1, by omega⟩) (by dsimp only; omega) (by (((repeat (first | exact EW.subW.nil | refine EW.subW.cons rfl ?_ | refine EW.subW.conv rfl ((by first | exact EW.kvI (by first | omega | (dsimp only; omega)) | exact EW.kvG (by first | omega | (simp only [List.length_cons, List.length_nil, List.length_append, List.length_map, List.length_set, List.length_replicate, List.length_take, List.length_drop, List.length_range, EV.putL_length, Nat.reduceAdd, Nat.reduceMul, Nat.reduceSub]; omega)) (by first | omega | (simp only [List.length_cons, List.length_nil, List.length_append, List.length_map, List.length_set, List.length_replicate, List.length_take, List.length_drop, List.length_range, EV.putL_length, Nat.reduceAdd, Nat.reduceMul, Nat.reduceSub]; omega)) | exact EW.kvB (by simp [*]) | exact EW.kvW (by (first | rfl | simp)) | rfl)) ?_)); (first | done | fail)))) (by (((repeat (first | with_reducible exact EW.Frm.refl | refine EW.Frm.upd ?_ rfl | refine EW.Frm.drp ?_ (by decide) rfl)); (first | done | fail)))) (fun _ => rfl) hcl4 (by ((first | (intro j n hn; cases hn; (first | done | fail)) | (intro n hn; cases hn; (first | done | fail)) | (intro j n hn; (repeat (first | (rcases List.mem_cons.1 hn with rfl | hn; (focus exact ⟨rfl, rfl⟩)) | (cases hn; (first | done | fail))))) | (intro n hn; (repeat (first | (rcases List.mem_cons.1 hn with rfl | hn; (focus exact ⟨rfl, rfl⟩)) | (cases hn; (first | done | fail)))))))))
  all_goals try (refine EW.nm ?_)
  · have h0 : l = [] := List.eq_nil_of_length_eq_zero (by omega)
    subst h0
    (refine EW.eLeaveN [] hR (by first | exact .inl rfl | exact .inr rfl) (by rfl) (by rfl) ?_ ?_ rfl rfl (by (((repeat (first | exact EW.NL.emp | (refine EW.NL.upd ?_ rfl) | refine EW.NL.drp ?_ | refine EW.NL.hp ?_ | refine EW.NL.argS ?_ | refine EW.NL.mix ?_)); (first | done | fail)))) rfl rfl; rotate_left 1; (· ((repeat (first | exact EW.atE.nil | refine EW.atE.lt rfl ?_ | refine EW.atE.lf ?_ | refine EW.atE.b rfl EW.SameB.refl ?_ | (refine EW.atE.b rfl ?_ ?_; rotate_left 1))))))
    all_goals rfl
  · have h1 : outI l q i = least l := by
      have : i = l.length := by omega
      subst this; rw [outI, if_neg (by omega), nearI_all l (by omega)]
    rw [h1]
    (refine EW.eLeaveN [] hR (by first | exact .inl rfl | exact .inr rfl) (by rfl) (by rfl) ?_ ?_ rfl rfl (by (((repeat (first | exact EW.NL.emp | (refine EW.NL.upd ?_ rfl) | refine EW.NL.drp ?_ | refine EW.NL.hp ?_ | refine EW.NL.argS ?_ | refine EW.NL.mix ?_)); (first | done | fail)))) rfl rfl; rotate_left 1; (· ((repeat (first | exact EW.atE.nil | refine EW.atE.lt rfl ?_ | refine EW.atE.lf ?_ | refine EW.atE.b rfl EW.SameB.refl ?_ | (refine EW.atE.b rfl ?_ ?_; rotate_left 1))))))
    all_goals rfl
/-- runs: a function, and the cell it keeps. -/
theorem runsF_ctS (o : Bool) (l : List Px) (k : Nat) : CT Try.prog 33 [.c (.s 0 0 l.length k)] (upd EW.emp [(.l 0, .l true), (.b 0, .b (.w o (pvs l)))]) 1 2 (.c (.f 48 [(1, 0)])) (upd (upd EW.emp [(.l 0, .l true), (.b 0, .b (.w o (pvs l)))]) [(.l 1, .l true), (.b 1, .b (.m true [.s 0 0 l.length k]))]) := by
  refine EW.ctEnter [10, 20, 30, 40, 50, 60, 70, 80, 90, 100, 110, 120, 130, 140, 150, 160, 170, 180, 190, 200, 210, 220, 230, 240, 250, 260, 270, 280, 290, 300, 310, 320, 330, 340, 350, 360, 370, 380, 390, 400, 410, 420, 430, 440, 450, 460, 470, 480, 490, 500, 510, 520, 530, 540, 550, 560, 570, 580, 590, 600] Try.func33 rfl Try.ntmps33 rfl (by (((repeat (first | exact EW.NL.emp | (refine EW.NL.upd ?_ rfl) | refine EW.NL.drp ?_ | refine EW.NL.hp ?_ | refine EW.NL.argS ?_ | refine EW.NL.mix ?_)); (first | done | fail)))) ?_; intro w0 tch ini R hR
  all_goals try (refine EW.nm ?_)
  all_goals try (first | refine EW.eRegL (id := 0) ?_ | refine EW.eReg (id := 0) ?_)
  all_goals try (first | refine EW.eBox EV.wide_like (id := 0) (d := 1) ?_)
  all_goals try (first | refine EW.eAssign EV.wide_like (id := 0) (d := 2) ?_)
  all_goals try (refine EW.eEnd (id := 0) ?_)
  all_goals try (refine EW.nm ?_)
  all_goals try (first | refine EW.eRegL (id := 1) ?_ | refine EW.eReg (id := 1) ?_)
  all_goals try (first | refine EW.eFunc EV.wide_like (id := 1) (d := 3) ?_)
  all_goals try (first | refine EW.eAssign EV.wide_like (id := 1) (d := 2) ?_)
  all_goals try (refine EW.eEnd (id := 1) ?_)
  all_goals try (refine EW.nm ?_)
  (refine EW.eLeaveN [10] hR (by first | exact .inl rfl | exact .inr rfl) (by rfl) (by rfl) ?_ ?_ rfl rfl (by (((repeat (first | exact EW.NL.emp | (refine EW.NL.upd ?_ rfl) | refine EW.NL.drp ?_ | refine EW.NL.hp ?_ | refine EW.NL.argS ?_ | refine EW.NL.mix ?_)); (first | done | fail)))) rfl rfl; rotate_left 1; (· ((repeat (first | exact EW.atE.nil | refine EW.atE.lt rfl ?_ | refine EW.atE.lf ?_ | refine EW.atE.b rfl EW.SameB.refl ?_ | (refine EW.atE.b rfl ?_ ?_; rotate_left 1))))))
  all_goals rfl
theorem least_ctS (o : Bool) (l : List Px) (k : Nat) (hl : l.length ≤ 100000000) : CT Try.prog 12 [.c (.s 0 0 l.length k)] (upd EW.emp [(.l 0, .l true), (.b 0, .b (.w o (pvs l)))]) 1 1 (.a (least l).cs) (upd (upd EW.emp [(.l 0, .l true), (.b 0, .b (.w o (pvs l)))]) []) := by
  refine EW.ctEnter [10, 20, 30, 40, 50, 60, 70, 80, 90, 100, 110, 120, 130, 140, 150, 160, 170, 180, 190, 200, 210, 220, 230, 240, 250, 260, 270, 280, 290, 300, 310, 320, 330, 340, 350, 360, 370, 380, 390, 400, 410, 420, 430, 440, 450, 460, 470, 480, 490, 500, 510, 520, 530, 540, 550, 560, 570, 580, 590, 600] Try.func12 rfl Try.ntmps12 rfl (by (((repeat (first | exact EW.NL.emp | (refine EW.NL.upd ?_ rfl) | refine EW.NL.drp ?_ | refine EW.NL.hp ?_ | refine EW.NL.argS ?_ | refine EW.NL.mix ?_)); (first | done | fail)))) ?_; intro w0 tch ini R hR
  all_goals try (refine EW.nm ?_)
  all_goals try (first | refine EW.eRegL (id := 0) ?_ | refine EW.eReg (id := 0) ?_)
  all_goals try (first | refine EW.eAlloc EV.wide_like (id := 0) (d := 2) ?_)
  all_goals try (refine EW.eEnd (id := 0) ?_)
  all_goals try (refine EW.nm ?_)
  all_goals try (first | refine EW.eRegL (id := 1) ?_ | refine EW.eReg (id := 1) ?_)
  all_goals try (first | refine EW.eMove EV.wide_like (id := 1) (d := 4) ?_)
  all_goals try (first | refine EW.eCallN [0] EV.wide_like (id := 1) Try.call33 (runsF_ctS _ _ _) ?_)
  all_goals try (refine EW.eEnd (id := 1) ?_)
  all_goals try (refine EW.nm ?_)
  all_goals first | (fail_if_success (with_reducible refine EW.isRange ?_)) | (refine EW.eRange [(2, .c (.p 10 0))] (m := 100) (nD := 50) (nL := 60) [60, 20, 0, 10, 50] EV.wide_like Try.call48 (runs_ctS _ l ⟨_, _, _, _⟩ _ hl) ?_)
  all_goals try (refine EW.nm ?_)
  all_goals try (first | refine EW.eRegL (id := 4) ?_ | refine EW.eReg (id := 4) ?_)
  all_goals try (first | refine EW.eLoadA EV.wide_like (id := 4) (d := 8) (k := 4) ?_)
  all_goals try (first | refine EW.eStoreW EV.wide_like (id := 4) (k := 4) ?_ | refine EW.eStore EV.wide_like (id := 4) (k := 4) ?_)
  all_goals try (refine EW.eEnd (id := 4) ?_)
  all_goals try (refine EW.nm ?_)
  all_goals (refine EW.eLeaveN [] hR (by first | exact .inl rfl | exact .inr rfl) (by rfl) (by rfl) ?_ ?_ rfl rfl (by (((repeat (first | exact EW.NL.emp | (refine EW.NL.upd ?_ rfl) | refine EW.NL.drp ?_ | refine EW.NL.hp ?_ | refine EW.NL.argS ?_ | refine EW.NL.mix ?_)); (first | done | fail)))) rfl rfl; rotate_left 1; (· ((repeat (first | exact EW.atE.nil | refine EW.atE.lt rfl ?_ | refine EW.atE.lf ?_ | refine EW.atE.b rfl EW.SameB.refl ?_ | (refine EW.atE.b rfl ?_ ?_; rotate_left 1))))))
  all_goals rfl
theorem runs_ctG (o : Bool) (l : List Px) (q : Px) (hl : l.length ≤ 100000000) : CT Try.prog 48 [.c (.y 0), .c (.p 1 0)] (upd EW.emp (WR o (.g 2 0 l.length l.length 4) l q)) 5 5 (.t []) (upd (upd EW.emp (WR o (.g 2 0 l.length l.length 4) l q)) [(.b 3, .b (.m true (least l).cs))]) := by
  refine EW.ctEnter [10, 20, 30, 40, 50, 60, 70, 80, 90, 100, 110, 120, 130, 140, 150, 160, 170, 180, 190, 200, 210, 220, 230, 240, 250, 260, 270, 280, 290, 300, 310, 320, 330, 340, 350, 360, 370, 380, 390, 400, 410, 420, 430, 440, 450, 460, 470, 480, 490, 500, 510, 520, 530, 540, 550, 560, 570, 580, 590, 600] Try.func48 rfl Try.ntmps48 rfl (by (((repeat (first | exact EW.NL.emp | (refine EW.NL.upd ?_ rfl) | refine EW.NL.drp ?_ | refine EW.NL.hp ?_ | refine EW.NL.argS ?_ | refine EW.NL.mix ?_)); (first | done | fail)))) ?_; intro w0 tch ini R hR
  all_goals try (refine EW.nm ?_)
  all_goals try (first | refine EW.eRegL (id := 0) ?_ | refine EW.eReg (id := 0) ?_)
  all_goals try (first | refine EW.eLoad1 EV.wide_like (id := 0) (d := 6) ?_)
  all_goals try (first | refine EW.eLenS EV.wide_like (id := 0) (d := 7) ?_ | refine EW.eLenG EV.wide_like (id := 0) (d := 7) ?_ | refine EW.eLenN EV.wide_like (id := 0) (d := 7) ?_)
  all_goals try (first | refine EW.eEql EV.wide_like (id := 0) (d := 8) ?_)
  all_goals try (refine EW.eEnd (id := 0) ?_)
  all_goals try (refine EW.nm ?_)
  all_goals try (first | refine EW.eYes (x := Operand.tmp 8) ?_ | refine EW.eNo (x := Operand.tmp 8) ?_ | (refine EW.eCond (x := Operand.tmp 8) ?_ ?_ <;> (intro hb hb'; (try dsimp only at hb'); (try (exfalso; first | omega | with_reducible exact absurd rfl hb')))))
  all_goals try (refine EW.nm ?_)
  all_goals try (first | refine EW.eRegL (id := 1) ?_ | refine EW.eReg (id := 1) ?_)
  all_goals try (first | refine EW.eMove EV.wide_like (id := 1) (d := 9) ?_)
  all_goals try (first | refine EW.eCall EV.wide_like (id := 1) Try.call11 (fun w => pempty w) ?_)
  all_goals try (first | (refine EW.eYieldN [0, 3, 4] EV.wide_like (id := 1) (least_round ⟨_, _, _, _⟩ ⟨_, _, _, _⟩) ?_))
  all_goals try (refine EW.eEnd (id := 1) ?_)
  all_goals try (refine EW.nm ?_)
  all_goals try (first | refine EW.eRegL (id := 2) ?_ | refine EW.eReg (id := 2) ?_)
  all_goals try (first | refine EW.eLoad1 EV.wide_like (id := 2) (d := 12) ?_)
  all_goals try (first | refine EW.eIndexAddrS EV.wide_like (id := 2) (d := 13) (z := 4) ?_ | refine EW.eIndexAddrG EV.wide_like (id := 2) (d := 13) (z := 4) ?_)
  all_goals try (first | refine EW.eLoadA EV.wide_like (id := 2) (d := 14) (k := 4) ?_)
  all_goals try (first | refine EW.eAlloc EV.wide_like (id := 2) (d := 3) ?_)
  all_goals try (first | refine EW.eStoreW EV.wide_like (id := 2) (k := 4) ?_ | refine EW.eStore EV.wide_like (id := 2) (k := 4) ?_)
  all_goals try (refine EW.eEnd (id := 2) ?_)
  all_goals try (refine EW.nm ?_)
  all_goals try (first | refine EW.eRegL (id := 3) ?_ | refine EW.eReg (id := 3) ?_)
  all_goals try (first | refine EW.eLoad1 EV.wide_like (id := 3) (d := 15) ?_)
  all_goals try (first | refine EW.eLenS EV.wide_like (id := 3) (d := 16) ?_ | refine EW.eLenG EV.wide_like (id := 3) (d := 16) ?_ | refine EW.eLenN EV.wide_like (id := 3) (d := 16) ?_)
  all_goals try (first | refine EW.eMove EV.wide_like (id := 3) (d := 17) ?_)
  all_goals try (refine EW.eEnd (id := 3) ?_)
  all_goals try (refine EW.nm ?_)
  all_goals first | (fail_if_success (refine EW.eUnroll 1 ?_)) | (refine EW.eLoopC [5, 17, 18, 19, 20, 21, 22, 23, 24, 25, 26, 27, 28] 20 (fun j : {i : Nat // i ≤ l.length} => [(.t 17, .v (.c (.v (.int .i64 j.1)))), (.b 10, .b (.m true (nearI l j.1).cs)), (.b 3, .b (.m true (outI l q j.1).cs))]) (fun j => l.length - j.1) (⟨0, by omega⟩) (by (((repeat (first | exact EW.subW.nil | refine EW.subW.cons rfl ?_ | refine EW.subW.conv rfl ((by first | exact EW.kvI (by first | omega | (dsimp only; omega)) | exact EW.kvG (by first | omega | (simp only [List.length_cons, List.length_nil, List.length_append, List.length_map, List.length_set, List.length_replicate, List.length_take, List.length_drop, List.length_range, EV.putL_length, Nat.reduceAdd, Nat.reduceMul, Nat.reduceSub]; omega)) (by first | omega | (simp only [List.length_cons, List.length_nil, List.length_append, List.length_map, List.length_set, List.length_replicate, List.length_take, List.length_drop, List.length_range, EV.putL_length, Nat.reduceAdd, Nat.reduceMul, Nat.reduceSub]; omega)) | exact EW.kvB (by simp [*]) | exact EW.kvW (by (first | rfl | simp)) | rfl)) ?_)); (first | done | fail)))) (by ((first | exact EW.ClD.nl (by (((repeat (first | exact EW.NL.emp | (refine EW.NL.upd ?_ rfl) | refine EW.NL.drp ?_ | refine EW.NL.hp ?_ | refine EW.NL.argS ?_ | refine EW.NL.mix ?_)); (first | done | fail)))) | exact EW.ClD.nm (by ((repeat (first | exact EW.NM.emp | (refine EW.NM.upd ?_ rfl) | refine EW.NM.drp ?_)); (first | done | fail)))))) (fun _ => rfl) (by ((first | (intro j n hn; cases hn; (first | done | fail)) | (intro n hn; cases hn; (first | done | fail)) | (intro j n hn; (repeat (first | (rcases List.mem_cons.1 hn with rfl | hn; (focus exact ⟨rfl, rfl⟩)) | (cases hn; (first | done | fail))))) | (intro n hn; (repeat (first | (rcases List.mem_cons.1 hn with rfl | hn; (focus exact ⟨rfl, rfl⟩)) | (cases hn; (first | done | fail)))))))) ?_; rintro hcl4 ⟨i, hi⟩; (try dsimp only))
  all_goals try (refine EW.nm ?_)
  all_goals try (first | refine EW.eRegL (id := 4) ?_ | refine EW.eReg (id := 4) ?_)
  all_goals try (first | refine EW.eLss EV.wide_like (id := 4) (d := 18) ?_)
  all_goals try (refine EW.eEnd (id := 4) ?_)
  all_goals try (refine EW.nm ?_)
  all_goals try (first | refine EW.eYes (x := Operand.tmp 18) ?_ | refine EW.eNo (x := Operand.tmp 18) ?_ | (refine EW.eCond (x := Operand.tmp 18) ?_ ?_ <;> (intro hb hb'; (try dsimp only at hb'); (try (exfalso; first | omega | with_reducible exact absurd rfl hb')))))
  all_goals try (refine EW.nm ?_)
  all_goals try (first | refine EW.eRegL (id := 5) ?_ | refine EW.eReg (id := 5) ?_)
  all_goals try (first | refine EW.eIndexAddrS EV.wide_like (id := 5) (d := 19) (z := 4) ?_ | refine EW.eIndexAddrG EV.wide_like (id := 5) (d := 19) (z := 4) ?_)
  all_goals try (first | refine EW.eLoadA EV.wide_like (id := 5) (d := 20) (k := 4) ?_)
  all_goals try (first | refine EW.eAlloc EV.wide_like (id := 5) (d := 5) ?_)
  all_goals try (first | refine EW.eStoreW EV.wide_like (id := 5) (k := 4) ?_ | refine EW.eStore EV.wide_like (id := 5) (k := 4) ?_)
  all_goals try (refine EW.eEnd (id := 5) ?_)
  all_goals try (refine EW.nm ?_)
  all_goals try (first | refine EW.eRegL (id := 6) ?_ | refine EW.eReg (id := 6) ?_)
  all_goals try (first | refine EW.eLoadA EV.wide_like (id := 6) (d := 21) (k := 4) ?_)
  all_goals try (first | refine EW.eLoadA EV.wide_like (id := 6) (d := 22) (k := 4) ?_)
  all_goals try (first | refine EW.eCall EV.wide_like (id := 6) Try.call8 (fun w => near_is ⟨_, _, _, _⟩ ⟨_, _, _, _⟩ (nearI l (i + 1)) w (nearI_succ l i (by omega)).symm) ?_)
  all_goals try (first | refine EW.eStoreW EV.wide_like (id := 6) (k := 4) ?_ | refine EW.eStore EV.wide_like (id := 6) (k := 4) ?_)
  all_goals try (refine EW.eEnd (id := 6) ?_)
  all_goals try (refine EW.nm ?_)
  all_goals try (first | refine EW.eRegL (id := 7) ?_ | refine EW.eReg (id := 7) ?_)
  all_goals try (first | refine EW.eMove EV.wide_like (id := 7) (d := 24) ?_)
  all_goals try (first | refine EW.eLoadA EV.wide_like (id := 7) (d := 25) (k := 4) ?_)
  all_goals try (first | (refine EW.eYieldN [0, 3, 4] EV.wide_like (id := 7) (least_round ⟨_, _, _, _⟩ ⟨_, _, _, _⟩) ?_))
  all_goals try (first | refine EW.eNot EV.wide_like (id := 7) (d := 27) ?_)
  all_goals try (refine EW.eEnd (id := 7) ?_)
  all_goals try (refine EW.nm ?_)
  all_goals try (first | refine EW.eYes (x := Operand.tmp 27) ?_ | refine EW.eNo (x := Operand.tmp 27) ?_ | (refine EW.eCond (x := Operand.tmp 27) ?_ ?_ <;> (intro hb hb'; (try dsimp only at hb'); (try (exfalso; first | omega | with_reducible exact absurd rfl hb')))))
  all_goals try (refine EW.nm ?_)
  all_goals try (first | refine EW.eRegL (id := 8) ?_ | refine EW.eReg (id := 8) ?_)
  all_goals try (first | refine EW.eAdd EV.wide_like (id := 8) (d := 28) ?_)
  all_goals try (first | refine EW.eMove EV.wide_like (id := 8) (d := 17) ?_)
  all_goals try (refine EW.eEnd (id := 8) ?_)
  all_goals try (refine EW.nm ?_)
  all_goals first | (fail_if_success (with_reducible refine EW.isLater ?_)) | (refine EW.eLater (⟨i + 1, by omega⟩) (by dsimp only; omega) (by (((repeat (first | exact EW.subW.nil | refine EW.subW.cons rfl ?_ | refine EW.subW.conv rfl ((by first | exact EW.kvI (by first | omega | (dsimp only; omega)) | exact EW.kvG (by first | omega | (simp only [List.length_cons, List.length_nil, List.length_append, List.length_map, List.length_set, List.length_replicate, List.length_take, List.length_drop, List.length_range, EV.putL_length, Nat.reduceAdd, Nat.reduceMul, Nat.reduceSub]; omega)) (by first | omega | (simp only [List.length_cons, List.length_nil, List.length_append, List.length_map, List.length_set, List.length_replicate, List.length_take, List.length_drop, List.length_range, EV.putL_length, Nat.reduceAdd, Nat.reduceMul, Nat.reduceSub]; omega)) | exact EW.kvB (by simp [*]) | exact EW.kvW (by (first | rfl | simp)) | rfl)) ?_)); (first | done | fail)))) (by (((repeat (first | with_reducible exact EW.Frm.refl | refine EW.Frm.upd ?_ rfl | refine EW.Frm.drp ?_ (by decide) rfl)); (first | done | fail)))) (fun _ => rfl) hcl4 (by ((first | (intro j n hn; cases hn; (first | done | fail)) | (intro n hn; cases hn; (first | done | fail)) | (intro j n hn; (repeat (first | (rcases List.mem_cons.1 hn with rfl | hn; (focus exact ⟨rfl, rfl⟩)) | (cases hn; (first | done | fail))))) | (intro n hn; (repeat (first | (rcases List.mem_cons.1 hn with rfl | hn; (focus exact ⟨rfl, rfl⟩)) | (cases hn; (first | done | fail)))))))))
  all_goals try (refine EW.nm ?_)
  · have h0 : l = [] := List.eq_nil_of_length_eq_zero (by omega)
    subst h0
    (refine EW.eLeaveN [] hR (by first | exact .inl rfl | exact .inr rfl) (by rfl) (by rfl) ?_ ?_ rfl rfl (by (((repeat (first | exact EW.NL.emp | (refine EW.NL.upd ?_ rfl) | refine EW.NL.drp ?_ | refine EW.NL.hp ?_ | refine EW.NL.argS ?_ | refine EW.NL.mix ?_)); (first | done | fail)))) rfl rfl; rotate_left 1; (· ((repeat (first | exact EW.atE.nil | refine EW.atE.lt rfl ?_ | refine EW.atE.lf ?_ | refine EW.atE.b rfl EW.SameB.refl ?_ | (refine EW.atE.b rfl ?_ ?_; rotate_left 1))))))
    all_goals rfl
  · have h1 : outI l q i = least l := by
      have : i = l.length := by omega
      subst this; rw [outI, if_neg (by omega), nearI_all l (by omega)]
    rw [h1]
    (refine EW.eLeaveN [] hR (by first | exact .inl rfl | exact .inr rfl) (by rfl) (by rfl) ?_ ?_ rfl rfl (by (((repeat (first | exact EW.NL.emp | (refine EW.NL.upd ?_ rfl) | refine EW.NL.drp ?_ | refine EW.NL.hp ?_ | refine EW.NL.argS ?_ | refine EW.NL.mix ?_)); (first | done | fail)))) rfl rfl; rotate_left 1; (· ((repeat (first | exact EW.atE.nil | refine EW.atE.lt rfl ?_ | refine EW.atE.lf ?_ | refine EW.atE.b rfl EW.SameB.refl ?_ | (refine EW.atE.b rfl ?_ ?_; rotate_left 1))))))
    all_goals rfl
/-- runs: a function, and the cell it keeps. -/
theorem runsF_ctG (o : Bool) (l : List Px) : CT Try.prog 33 [.c (.g 0 0 l.length l.length 4)] (upd EW.emp [(.l 0, .l true), (.b 0, .b (.w o (pvs l)))]) 1 2 (.c (.f 48 [(1, 0)])) (upd (upd EW.emp [(.l 0, .l true), (.b 0, .b (.w o (pvs l)))]) [(.l 1, .l true), (.b 1, .b (.m true [.g 0 0 l.length l.length 4]))]) := by
  refine EW.ctEnter [10, 20, 30, 40, 50, 60, 70, 80, 90, 100, 110, 120, 130, 140, 150, 160, 170, 180, 190, 200, 210, 220, 230, 240, 250, 260, 270, 280, 290, 300, 310, 320, 330, 340, 350, 360, 370, 380, 390, 400, 410, 420, 430, 440, 450, 460, 470, 480, 490, 500, 510, 520, 530, 540, 550, 560, 570, 580, 590, 600] Try.func33 rfl Try.ntmps33 rfl (by (((repeat (first | exact EW.NL.emp | (refine EW.NL.upd ?_ rfl) | refine EW.NL.drp ?_ | refine EW.NL.hp ?_ | refine EW.NL.argS ?_ | refine EW.NL.mix ?_)); (first | done | fail)))) ?_; intro w0 tch ini R hR
  all_goals try (refine EW.nm ?_)
  all_goals try (first | refine EW.eRegL (id := 0) ?_ | refine EW.eReg (id := 0) ?_)
  all_goals try (first | refine EW.eBox EV.wide_like (id := 0) (d := 1) ?_)
  all_goals try (first | refine EW.eAssign EV.wide_like (id := 0) (d := 2) ?_)
  all_goals try (refine EW.eEnd (id := 0) ?_)
  all_goals try (refine EW.nm ?_)
  all_goals try (first | refine EW.eRegL (id := 1) ?_ | refine EW.eReg (id := 1) ?_)
  all_goals try (first | refine EW.eFunc EV.wide_like (id := 1) (d := 3) ?_)
  all_goals try (first | refine EW.eAssign EV.wide_like (id := 1) (d := 2) ?_)
  all_goals try (refine EW.eEnd (id := 1) ?_)
  all_goals try (refine EW.nm ?_)
  (refine EW.eLeaveN [10] hR (by first | exact .inl rfl | exact .inr rfl) (by rfl) (by rfl) ?_ ?_ rfl rfl (by (((repeat (first | exact EW.NL.emp | (refine EW.NL.upd ?_ rfl) | refine EW.NL.drp ?_ | refine EW.NL.hp ?_ | refine EW.NL.argS ?_ | refine EW.NL.mix ?_)); (first | done | fail)))) rfl rfl; rotate_left 1; (· ((repeat (first | exact EW.atE.nil | refine EW.atE.lt rfl ?_ | refine EW.atE.lf ?_ | refine EW.atE.b rfl EW.SameB.refl ?_ | (refine EW.atE.b rfl ?_ ?_; rotate_left 1))))))
  all_goals rfl
theorem least_ctG (o : Bool) (l : List Px) (hl : l.length ≤ 100000000) : CT Try.prog 12 [.c (.g 0 0 l.length l.length 4)] (upd EW.emp [(.l 0, .l true), (.b 0, .b (.w o (pvs l)))]) 1 1 (.a (least l).cs) (upd (upd EW.emp [(.l 0, .l true), (.b 0, .b (.w o (pvs l)))]) []) := by
  refine EW.ctEnter [10, 20, 30, 40, 50, 60, 70, 80, 90, 100, 110, 120, 130, 140, 150, 160, 170, 180, 190, 200, 210, 220, 230, 240, 250, 260, 270, 280, 290, 300, 310, 320, 330, 340, 350, 360, 370, 380, 390, 400, 410, 420, 430, 440, 450, 460, 470, 480, 490, 500, 510, 520, 530, 540, 550, 560, 570, 580, 590, 600] Try.func12 rfl Try.ntmps12 rfl (by (((repeat (first | exact EW.NL.emp | (refine EW.NL.upd ?_ rfl) | refine EW.NL.drp ?_ | refine EW.NL.hp ?_ | refine EW.NL.argS ?_ | refine EW.NL.mix ?_)); (first | done | fail)))) ?_; intro w0 tch ini R hR
  all_goals try (refine EW.nm ?_)
  all_goals try (first | refine EW.eRegL (id := 0) ?_ | refine EW.eReg (id := 0) ?_)
  all_goals try (first | refine EW.eAlloc EV.wide_like (id := 0) (d := 2) ?_)
  all_goals try (refine EW.eEnd (id := 0) ?_)
  all_goals try (refine EW.nm ?_)
  all_goals try (first | refine EW.eRegL (id := 1) ?_ | refine EW.eReg (id := 1) ?_)
  all_goals try (first | refine EW.eMove EV.wide_like (id := 1) (d := 4) ?_)
  all_goals try (first | refine EW.eCallN [0] EV.wide_like (id := 1) Try.call33 (runsF_ctG _ _) ?_)
  all_goals try (refine EW.eEnd (id := 1) ?_)
  all_goals try (refine EW.nm ?_)
  all_goals first | (fail_if_success (with_reducible refine EW.isRange ?_)) | (refine EW.eRange [(2, .c (.p 10 0))] (m := 100) (nD := 50) (nL := 60) [60, 20, 0, 10, 50] EV.wide_like Try.call48 (runs_ctG _ l ⟨_, _, _, _⟩ hl) ?_)
  all_goals try (refine EW.nm ?_)
  all_goals try (first | refine EW.eRegL (id := 4) ?_ | refine EW.eReg (id := 4) ?_)
  all_goals try (first | refine EW.eLoadA EV.wide_like (id := 4) (d := 8) (k := 4) ?_)
  all_goals try (first | refine EW.eStoreW EV.wide_like (id := 4) (k := 4) ?_ | refine EW.eStore EV.wide_like (id := 4) (k := 4) ?_)
  all_goals try (refine EW.eEnd (id := 4) ?_)
  all_goals try (refine EW.nm ?_)
  all_goals (refine EW.eLeaveN [] hR (by first | exact .inl rfl | exact .inr rfl) (by rfl) (by rfl) ?_ ?_ rfl rfl (by (((repeat (first | exact EW.NL.emp | (refine EW.NL.upd ?_ rfl) | refine EW.NL.drp ?_ | refine EW.NL.hp ?_ | refine EW.NL.argS ?_ | refine EW.NL.mix ?_)); (first | done | fail)))) rfl rfl; rotate_left 1; (· ((repeat (first | exact EW.atE.nil | refine EW.atE.lt rfl ?_ | refine EW.atE.lf ?_ | refine EW.atE.b rfl EW.SameB.refl ?_ | (refine EW.atE.b rfl ?_ ?_; rotate_left 1))))))
  all_goals rfl
end Go.Proofs.Ytjcabgoanlhhnaa
