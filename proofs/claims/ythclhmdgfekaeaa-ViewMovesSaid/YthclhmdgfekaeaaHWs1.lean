/- Package wide: Sum: the sum of products of two lists. -/
import Derived.Test.YthclhmdgfekaeaaHZW
namespace Go.Proofs.Ythclhmdgfekaeaa
set_option linter.unusedSimpArgs false
set_option linter.unusedVariables false
open Go.RowKit EV
open SX (Wr Tv Qu Rm Sh Is conjP eqs_iff eqs_false)
open EW (PlL PlT PlV PlVs LfV Mm Bt Opn GV YT lpOf nums)
set_option maxRecDepth 20000
/-- The sum of the first products. -/
def pre (a b : List Int) : Nat → Int
  | 0 => 0
  | k + 1 => pre a b k + a.getD k 0 * b.getD k 0
abbrev C2 (z : Int) : List C := [.v (.int .i64 (z / 18446744073709551616)), .v (.int .u64 (z % 18446744073709551616))]
noncomputable def lpS (o e d : Nat) : LoopK := lpOf Try.f70 0 [(6, .c (.p o 0)), (7, .c (.p e 0))] d
noncomputable def WS (z : Int) (e : Int) : Ws := [(.l 0, .l true), (.b 0, .b (.lp (lpS 1 2 3))), (.l 1, .l true), (.b 1, .b (.m true (C2 z))), (.l 2, .l true), (.b 2, .b (.m true [.v (.int .i64 e)])), (.l 3, .l true), (.b 3, .b .df)]
theorem sum_good (x y z s : Int) (hx0 : -9223372036854775808 ≤ x) (hx1 : x ≤ 9223372036854775807) (hy0 : -9223372036854775808 ≤ y) (hy1 : y ≤ 9223372036854775807) (hz : In128 z) (hs : z + x * y = s) (hi : In128 s) (hp : In128 (x * y)) :
    YT Try.prog [.c (.v (.int .i64 x)), .c (.v (.int .i64 y))] (upd EW.emp (WS z 0)) 4 4 none (upd (upd EW.emp (WS z 0)) [(.b 1, .b (.m true (C2 s))), (.b 2, .b (.m true [.v (.int .i64 0)]))]) := by
  have h1 := fun w => wmul x y w hx0 hx1 hy0 hy1
  have h2 := fun w => wadd z (x * y) w hz hp
  rw [hs, wV, wE, if_pos hi, if_pos hi] at h2
  clear hs
  generalize x * y = p at *
  refine EW.ytEnter (ws := [(.t 13, .v (.c (.v (.int .i64 x)))), (.t 14, .v (.c (.v (.int .i64 y)))), (.t 6, .v (.c (.p 1 0))), (.t 7, .v (.c (.p 2 0)))]) [10, 20, 30, 40, 50, 60, 70, 80, 90, 100, 110, 120, 130, 140, 150, 160, 170, 180, 190, 200, 210, 220, 230, 240, 250, 260, 270, 280, 290, 300, 310, 320, 330, 340, 350, 360, 370, 380, 390, 400, 410, 420, 430, 440, 450, 460, 470, 480, 490, 500, 510, 520, 530, 540, 550, 560, 570, 580, 590, 600] rfl rfl (by (((repeat (first | exact EW.NL.emp | (refine EW.NL.upd ?_ rfl) | refine EW.NL.drp ?_ | refine EW.NL.hp ?_ | refine EW.NL.argS ?_ | refine EW.NL.mix ?_)); (first | done | fail)))) rfl rfl rfl rfl rfl rfl ⟨rfl⟩ ?_; intro w0 tch ini nn R hR
  all_goals try (refine EW.nm ?_)
  all_goals try ((first | refine EW.eRegL (id := 4) ?_ | refine EW.eReg (id := 4) ?_); refine EW.eAssign ?_; refine EW.eEnd ?_; (try refine EW.nm ?_))
  all_goals try ((first | refine EW.eRegL (id := 5) ?_ | refine EW.eReg (id := 5) ?_); refine EW.eAssign ?_; refine EW.eEnd ?_; (try refine EW.nm ?_))
  all_goals try (refine EW.eBegin rfl rfl rfl rfl ?_)
  all_goals try (refine EW.nm ?_)
  all_goals try ((first | refine EW.eRegL (id := 6) ?_ | refine EW.eReg (id := 6) ?_); refine EW.eLoadA (k := 2) ?_; refine EW.eMove ?_; refine EW.eMove ?_; refine EW.eCall Try.call75 (fun w => h1 w) ?_; refine EW.eCall Try.call78 (fun w => h2 w) ?_; refine EW.eMove ?_; (first | refine EW.eExtC ?_ | refine EW.eExtA ?_); (first | refine EW.eExtC ?_ | refine EW.eExtA ?_); (first | refine EW.eStoreW (k := 2) ?_ | refine EW.eStore (k := 2) ?_); (first | refine EW.eStoreW (k := 1) ?_ | refine EW.eStore (k := 1) ?_); refine EW.eDraw ?_; (try refine EW.nm ?_))
  all_goals try ((first | refine EW.eRegL (id := 7) ?_ | refine EW.eReg (id := 7) ?_); refine EW.eLoad1 ?_; refine EW.eNeq ?_; refine EW.eEnd ?_; (try refine EW.nm ?_))
  all_goals try (first | refine EW.eYes (x := Operand.tmp 24) ?_ | refine EW.eNo (x := Operand.tmp 24) ?_ | (refine EW.eCond (x := Operand.tmp 24) ?_ ?_ <;> (intro hb hb'; (try dsimp only at hb'); (try (exfalso; first | omega | with_reducible exact absurd rfl hb')))))
  all_goals try (refine EW.nm ?_)
  all_goals try (refine EW.Park.mk ?_)
  all_goals (refine EW.eRoundEnd [] hR rfl rfl rfl rfl ?_ rfl rfl (by (((repeat (first | exact EW.NL.emp | (refine EW.NL.upd ?_ rfl) | refine EW.NL.drp ?_ | refine EW.NL.hp ?_ | refine EW.NL.argS ?_ | refine EW.NL.mix ?_)); (first | done | fail)))) rfl; (· ((repeat (first | exact EW.atE.nil | refine EW.atE.lt rfl ?_ | refine EW.atE.lf ?_ | refine EW.atE.b rfl EW.SameB.refl ?_ | (refine EW.atE.b rfl ?_ ?_; rotate_left 1))))))
noncomputable def WP (oa ob : Bool) (la lb : List Int) (n m k k' : Nat) (z e : Int) : Ws := [(.l 0, .l true), (.b 0, .b (.lp (lpS 5 6 7))), (.l 1, .l true), (.b 1, .b (.m true [.s 3 0 n k])), (.l 2, .l true), (.b 2, .b (.m true [.s 4 0 m k'])), (.l 3, .l true), (.b 3, .b (.w oa (nums .i64 la))), (.l 4, .l true), (.b 4, .b (.w ob (nums .i64 lb))), (.l 5, .l true), (.b 5, .b (.m true (C2 z))), (.l 6, .l true), (.b 6, .b (.m true [.v (.int .i64 e)])), (.l 7, .l true), (.b 7, .b .df)]
theorem sum_goodI {la lb : List Int} (ha : Ok64 la) (hb : Ok64 lb) (i : Nat) (h : In128 (pre la lb i)) (h' : In128 (pre la lb (i + 1))) :
    YT Try.prog [.c (.v (.int .i64 (la.getD i 0))), .c (.v (.int .i64 (lb.getD i 0)))] (upd EW.emp (WS (pre la lb i) 0)) 4 4 none (upd (upd EW.emp (WS (pre la lb i) 0)) [(.b 1, .b (.m true (C2 (pre la lb (i + 1))))), (.b 2, .b (.m true [.v (.int .i64 0)]))]) :=
  sum_good _ _ _ _ (ha i).1 (ha i).2 (hb i).1 (hb i).2 h rfl h' (prod128 (ha i).1 (ha i).2 (hb i).1 (hb i).2)
theorem min_is {n m q : Nat} (hq : q = min n m) : Mm .min [.int .i64 (n : Int), .int .i64 (m : Int)] .i64 (q : Int) := by
  rcases Nat.le_total n m with h | h
  · rw [show q = n by omega]; exact Mm.min2l (by omega)
  · rw [show q = m by omega]; exact Mm.min2r (by omega)
theorem pairs_ok (oa ob : Bool) (la lb : List Int) (n m k k' q : Nat) (la' : la.length = n) (lb' : lb.length = m) (ha : Ok64 la) (kb : Ok64 lb) (hq : q = min n m) (hn : n ≤ 100000000) (hm : m ≤ 100000000) (hall : ∀ i, i ≤ q → In128 (pre la lb i)) :
    CT Try.prog 85 [.c (.y 0), .c (.p 1 0), .c (.p 2 0)] (upd EW.emp (WP oa ob la lb n m k k' 0 0)) 8 8 (.t []) (upd (upd EW.emp (WP oa ob la lb n m k k' 0 0)) [(.b 5, .b (.m true (C2 (pre la lb q)))), (.b 6, .b (.m true [.v (.int .i64 0)]))]) := by
  have hqn : q ≤ n := by omega
  have hqm : q ≤ m := by omega
  have hmin : Mm .min [.int .i64 (n : Int), .int .i64 (m : Int)] .i64 (q : Int) := min_is hq
  refine EW.ctEnter [10, 20, 30, 40, 50, 60, 70, 80, 90, 100, 110, 120, 130, 140, 150, 160, 170, 180, 190, 200, 210, 220, 230, 240, 250, 260, 270, 280, 290, 300, 310, 320, 330, 340, 350, 360, 370, 380, 390, 400, 410, 420, 430, 440, 450, 460, 470, 480, 490, 500, 510, 520, 530, 540, 550, 560, 570, 580, 590, 600] Try.func85 rfl Try.ntmps85 rfl (by (((repeat (first | exact EW.NL.emp | (refine EW.NL.upd ?_ rfl) | refine EW.NL.drp ?_ | refine EW.NL.hp ?_ | refine EW.NL.argS ?_ | refine EW.NL.mix ?_)); (first | done | fail)))) ?_; intro w0 tch ini R hR
  all_goals try (refine EW.nm ?_)
  all_goals try ((first | refine EW.eRegL (id := 0) ?_ | refine EW.eReg (id := 0) ?_); refine EW.eLoad1 ?_; (first | refine EW.eLenS ?_ | refine EW.eLenG ?_ | refine EW.eLenN ?_); refine EW.eLoad1 ?_; (first | refine EW.eLenS ?_ | refine EW.eLenG ?_ | refine EW.eLenN ?_); refine EW.eMin ?_ (hr' := hmin); refine EW.eMove ?_; refine EW.eEnd ?_; (try refine EW.nm ?_))
  all_goals first | (fail_if_success (refine EW.eUnroll 1 ?_)) | (refine EW.eLoopD [4, 10, 11, 12, 13, 14, 15, 16, 17, 18, 19, 20, 21, 22, 23, 24] 1000000 (fun j : {i : Nat // i ≤ q} => [(.t 10, .v (.c (.v (.int .i64 j.1)))), (.b 5, .b (.m true (C2 (pre la lb j.1)))), (.b 6, .b (.m true [.v (.int .i64 0)]))]) (fun j => q - j.1) (⟨0, by omega⟩) (by ((repeat (first | exact EW.subW.nil | refine EW.subW.cons rfl ?_ | refine EW.subW.conv rfl ?_)); (first | done | fail))) ?_; rintro hcl1 ⟨i, hi⟩; (try dsimp only))
  all_goals try (refine EW.nm ?_)
  all_goals try ((first | refine EW.eRegL (id := 1) ?_ | refine EW.eReg (id := 1) ?_); refine EW.eLss ?_; refine EW.eEnd ?_; (try refine EW.nm ?_))
  all_goals try (first | refine EW.eYes (x := Operand.tmp 11) ?_ | refine EW.eNo (x := Operand.tmp 11) ?_ | (refine EW.eCond (x := Operand.tmp 11) ?_ ?_ <;> (intro hb hb'; (try dsimp only at hb'); (try (exfalso; first | omega | with_reducible exact absurd rfl hb')))))
  all_goals try (refine EW.nm ?_)
  all_goals try ((first | refine EW.eRegL (id := 2) ?_ | refine EW.eReg (id := 2) ?_); refine EW.eMove ?_; refine EW.eAssign ?_; refine EW.eEnd ?_; (try refine EW.nm ?_))
  all_goals try ((first | refine EW.eRegL (id := 3) ?_ | refine EW.eReg (id := 3) ?_); refine EW.eMove ?_; refine EW.eLoad1 ?_; refine EW.eMove ?_; (first | refine EW.eIndexAddrS (z := 1) ?_ | refine EW.eIndexAddrG (z := 1) ?_); refine EW.eLoad1 ?_; refine EW.eLoad1 ?_; refine EW.eMove ?_; (first | refine EW.eIndexAddrS (z := 1) ?_ | refine EW.eIndexAddrG (z := 1) ?_); refine EW.eLoad1 ?_; (first | (refine EW.eYieldN [0, 5, 6, 7] (sum_goodI ha kb i (hall i (by omega)) (hall (i + 1) (by omega))) ?_)); refine EW.eNot ?_; refine EW.eDraw ?_; (try refine EW.nm ?_))
  all_goals try (first | refine EW.eYes (x := Operand.tmp 23) ?_ | refine EW.eNo (x := Operand.tmp 23) ?_ | (refine EW.eCond (x := Operand.tmp 23) ?_ ?_ <;> (intro hb hb'; (try dsimp only at hb'); (try (exfalso; first | omega | with_reducible exact absurd rfl hb')))))
  all_goals try (refine EW.nm ?_)
  all_goals try (with_reducible refine EW.parkK ?_)
  all_goals try ((first | refine EW.eRegL (id := 4) ?_ | refine EW.eReg (id := 4) ?_); refine EW.eAdd ?_; refine EW.eMove ?_; refine EW.eEnd ?_; (try refine EW.nm ?_))
  all_goals first | (fail_if_success (with_reducible refine EW.isLater ?_)) | (refine EW.eLaterD (⟨i + 1, by omega⟩) (by dsimp only; omega) (by ((repeat (first | exact EW.subW.nil | refine EW.subW.cons rfl ?_ | refine EW.subW.conv rfl ?_)); (first | done | fail))) hcl1)
  all_goals try (refine EW.nm ?_)
  all_goals try (refine EW.Park.mk ?_)
  all_goals (obtain rfl : q = i := by omega)
  all_goals (refine EW.eLeaveN [] hR (by first | exact .inl rfl | exact .inr rfl) (by rfl) (by rfl) ?_ ?_ rfl rfl (by (((repeat (first | exact EW.NL.emp | (refine EW.NL.upd ?_ rfl) | refine EW.NL.drp ?_ | refine EW.NL.hp ?_ | refine EW.NL.argS ?_ | refine EW.NL.mix ?_)); (first | done | fail)))) rfl rfl; rotate_left 1; (· ((repeat (first | exact EW.atE.nil | refine EW.atE.lt rfl ?_ | refine EW.atE.lf ?_ | refine EW.atE.b rfl EW.SameB.refl ?_ | (refine EW.atE.b rfl ?_ ?_; rotate_left 1))))))
  all_goals rfl
noncomputable def WQ (oa ob : Bool) (la lb : List Int) : Ws := [(.l 0, .l true), (.b 0, .b (.w oa (nums .i64 la))), (.l 1, .l true), (.b 1, .b (.w ob (nums .i64 lb)))]
theorem pairsF (oa ob : Bool) (la lb : List Int) (n m k k' : Nat) : CT Try.prog 77 [.c (.s 0 0 n k), .c (.s 1 0 m k')] (upd EW.emp (WQ oa ob la lb)) 2 4 (.c (.f 85 [(2, 0), (3, 0)])) (upd (upd EW.emp (WQ oa ob la lb)) [(.l 2, .l true), (.b 2, .b (.m true [.s 0 0 n k])), (.l 3, .l true), (.b 3, .b (.m true [.s 1 0 m k']))]) := by
  refine EW.ctEnter [10, 20, 30, 40, 50, 60, 70, 80, 90, 100, 110, 120, 130, 140, 150, 160, 170, 180, 190, 200, 210, 220, 230, 240, 250, 260, 270, 280, 290, 300, 310, 320, 330, 340, 350, 360, 370, 380, 390, 400, 410, 420, 430, 440, 450, 460, 470, 480, 490, 500, 510, 520, 530, 540, 550, 560, 570, 580, 590, 600] Try.func77 rfl Try.ntmps77 rfl (by (((repeat (first | exact EW.NL.emp | (refine EW.NL.upd ?_ rfl) | refine EW.NL.drp ?_ | refine EW.NL.hp ?_ | refine EW.NL.argS ?_ | refine EW.NL.mix ?_)); (first | done | fail)))) ?_; intro w0 tch ini R hR
  all_goals try (refine EW.nm ?_)
  all_goals try ((first | refine EW.eRegL (id := 0) ?_ | refine EW.eReg (id := 0) ?_); refine EW.eBox ?_; refine EW.eBox ?_; refine EW.eAssign ?_; refine EW.eEnd ?_; (try refine EW.nm ?_))
  all_goals try ((first | refine EW.eRegL (id := 1) ?_ | refine EW.eReg (id := 1) ?_); refine EW.eFunc ?_; refine EW.eAssign ?_; refine EW.eEnd ?_; (try refine EW.nm ?_))
  all_goals try (with_reducible refine EW.parkK ?_)
  all_goals try (refine EW.Park.mk ?_)
  (refine EW.eLeaveN [10, 20] hR (by first | exact .inl rfl | exact .inr rfl) (by rfl) (by rfl) ?_ ?_ rfl rfl (by (((repeat (first | exact EW.NL.emp | (refine EW.NL.upd ?_ rfl) | refine EW.NL.drp ?_ | refine EW.NL.hp ?_ | refine EW.NL.argS ?_ | refine EW.NL.mix ?_)); (first | done | fail)))) rfl rfl; rotate_left 1; (· ((repeat (first | exact EW.atE.nil | refine EW.atE.lt rfl ?_ | refine EW.atE.lf ?_ | refine EW.atE.b rfl EW.SameB.refl ?_ | (refine EW.atE.b rfl ?_ ?_; rotate_left 1))))))
  all_goals rfl
theorem wsum_ok (oa ob : Bool) (la lb : List Int) (n m k k' q : Nat) (la' : la.length = n) (lb' : lb.length = m) (ha : Ok64 la) (kb : Ok64 lb) (hq : q = min n m) (hn : n ≤ 100000000) (hm : m ≤ 100000000) (hall : ∀ i, i ≤ q → In128 (pre la lb i)) :
    CT Try.prog 70 [.c (.s 0 0 n k), .c (.s 1 0 m k')] (upd EW.emp (WQ oa ob la lb)) 2 2 (.t [.inr (C2 (pre la lb q)), .inl (.v (.int .i64 0))]) (upd (upd EW.emp (WQ oa ob la lb)) []) := by
  refine EW.ctEnter [10, 20, 30, 40, 50, 60, 70, 80, 90, 100, 110, 120, 130, 140, 150, 160, 170, 180, 190, 200, 210, 220, 230, 240, 250, 260, 270, 280, 290, 300, 310, 320, 330, 340, 350, 360, 370, 380, 390, 400, 410, 420, 430, 440, 450, 460, 470, 480, 490, 500, 510, 520, 530, 540, 550, 560, 570, 580, 590, 600] Try.func70 rfl Try.ntmps70 rfl (by (((repeat (first | exact EW.NL.emp | (refine EW.NL.upd ?_ rfl) | refine EW.NL.drp ?_ | refine EW.NL.hp ?_ | refine EW.NL.argS ?_ | refine EW.NL.mix ?_)); (first | done | fail)))) ?_; intro w0 tch ini R hR
  all_goals try (refine EW.nm ?_)
  all_goals try ((first | refine EW.eRegL (id := 0) ?_ | refine EW.eReg (id := 0) ?_); refine EW.eAlloc ?_; refine EW.eAssign ?_; refine EW.eEnd ?_; (try refine EW.nm ?_))
  all_goals try ((first | refine EW.eRegL (id := 1) ?_ | refine EW.eReg (id := 1) ?_); refine EW.eAlloc ?_; refine EW.eEnd ?_; (try refine EW.nm ?_))
  all_goals try ((first | refine EW.eRegL (id := 2) ?_ | refine EW.eReg (id := 2) ?_); refine EW.eAlloc ?_; (first | refine EW.eStoreW (k := 1) ?_ | refine EW.eStore (k := 1) ?_); refine EW.eEnd ?_; (try refine EW.nm ?_))
  all_goals try ((first | refine EW.eRegL (id := 3) ?_ | refine EW.eReg (id := 3) ?_); refine EW.eMove ?_; refine EW.eMove ?_; refine EW.eCallN [0, 1] Try.call77 (pairsF oa ob la lb n m k k') ?_; refine EW.eEnd ?_; (try refine EW.nm ?_))
  all_goals first | (fail_if_success (with_reducible refine EW.isRange ?_)) | (refine EW.eRange [(6, .c (.p 20 0)), (7, .c (.p 30 0))] (m := 100) (nD := 60) (nL := 70) [70, 40, 41, 0, 1, 20, 30, 60] Try.call85 (pairs_ok oa ob la lb n m k k' q la' lb' ha kb hq hn hm hall) ?_)
  all_goals try (refine EW.nm ?_)
  all_goals try ((first | refine EW.eRegL (id := 8) ?_ | refine EW.eReg (id := 8) ?_); refine EW.eLoadA (k := 2) ?_; refine EW.eLoad1 ?_; (first | refine EW.eStoreW (k := 2) ?_ | refine EW.eStore (k := 2) ?_); refine EW.eAssign ?_; refine EW.eDraw ?_; (try refine EW.nm ?_))
  all_goals try (with_reducible refine EW.parkK ?_)
  all_goals try (refine EW.Park.mk ?_)
  all_goals (refine EW.eLeaveN [] hR (by first | exact .inl rfl | exact .inr rfl) (by rfl) (by rfl) ?_ ?_ rfl rfl (by (((repeat (first | exact EW.NL.emp | (refine EW.NL.upd ?_ rfl) | refine EW.NL.drp ?_ | refine EW.NL.hp ?_ | refine EW.NL.argS ?_ | refine EW.NL.mix ?_)); (first | done | fail)))) rfl rfl; rotate_left 1; (· ((repeat (first | exact EW.atE.nil | refine EW.atE.lt rfl ?_ | refine EW.atE.lf ?_ | refine EW.atE.b rfl EW.SameB.refl ?_ | (refine EW.atE.b rfl ?_ ?_; rotate_left 1))))))
  all_goals rfl
end Go.Proofs.Ythclhmdgfekaeaa
