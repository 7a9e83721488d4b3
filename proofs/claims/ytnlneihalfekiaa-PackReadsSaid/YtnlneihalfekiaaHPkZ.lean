/- PackReads: one call of both readers answers alike. -/
import Derived.Test.YtnlneihalfekiaaHPkY
import Derived.Test.YtnlneihalfekiaaHEwJ
namespace Go.Proofs.Ytnlneihalfekiaa
set_option linter.unusedSimpArgs false
set_option linter.unusedVariables false
open Go.RowKit EV
open SX (Wr Tv Qu Rm Sh Is conjP eqs_iff eqs_false)
open EW (PlL PlT PlV PlVs LfV Mm Bt Opn GV YT lpOf nums)
set_option maxRecDepth 20000
theorem read7n (bs : List Int) (p n p' q' : Nat) (lost lost' : Bool) (u i n' m : Int) (f : Bool) (a : Option Addr) (len cap : Nat) (hA : CT Try.prog 40 [.c (.p 0 0), .c (.v (.int .i64 m)), .c (.f 59 [])] (upd EW.emp (WR bs p n lost)) 2 2 (.c (.v (.slice none 0 0))) (upd (upd EW.emp (WR bs p n lost)) [(.b 0, .b (.m true (rcs p' q' lost')))])) (hB : CT Try.prog 60 [.c (.p 0 0), .c (.v (.int .i64 m))] (upd EW.emp (WD false bs p lost)) 2 2 (.c (.v (.slice none 0 0))) (upd (upd EW.emp (WD false bs p lost)) [(.b 0, .b (.m true (dcs bs.length p' lost')))])) : CT Try.prog 26 [.c (.p 0 0), .c (.p 2 0), .a (opc 7 u i n' m f a len cap)] (upd EW.emp (WRD bs p n lost)) 4 4 (.c (.v (.bool true))) (upd (upd EW.emp (WRD bs p n lost)) [(.b 0, .b (.m true (rcs p' q' lost'))), (.b 2, .b (.m true (ecs bs.length p' lost')))]) := by
  refine EW.ctEnter [10, 20, 30, 40, 50, 60, 70, 80, 90, 100, 110, 120, 130, 140, 150, 160, 170, 180, 190, 200, 210, 220, 230, 240, 250, 260, 270, 280, 290, 300, 310, 320, 330, 340, 350, 360, 370, 380, 390, 400, 410, 420, 430, 440, 450, 460, 470, 480, 490, 500, 510, 520, 530, 540, 550, 560, 570, 580, 590, 600] Try.func26 rfl Try.ntmps26 rfl (by (((repeat (first | exact EW.NL.emp | (refine EW.NL.upd ?_ rfl) | refine EW.NL.drp ?_ | refine EW.NL.hp ?_ | refine EW.NL.argS ?_ | refine EW.NL.mix ?_)); (first | done | fail)))) ?_; intro w0 tch ini R hR
  all_goals try (refine EW.nm ?_)
  all_goals try ((first | refine EW.eRegL (id := 0) ?_ | refine EW.eReg (id := 0) ?_); refine EW.eBox ?_; refine EW.eAssign ?_; refine EW.eEnd ?_; (try refine EW.nm ?_))
  all_goals try ((first | refine EW.eRegL (id := 1) ?_ | refine EW.eReg (id := 1) ?_); refine EW.eFieldAddr (k := 1) ?_; refine EW.eLoad1 ?_; refine EW.eEnd ?_; (try refine EW.nm ?_))
  all_goals try ((first | refine EW.eRegL (id := 2) ?_ | refine EW.eReg (id := 2) ?_); refine EW.eEql ?_; refine EW.eAssign ?_; refine EW.eEnd ?_; (try refine EW.nm ?_))
  all_goals try (first | refine EW.eYes (x := Operand.tmp 16) ?_ | refine EW.eNo (x := Operand.tmp 16) ?_ | (refine EW.eCond (x := Operand.tmp 16) ?_ ?_ <;> (intro hb hb'; (try dsimp only at hb'); (try (exfalso; first | omega | with_reducible exact absurd rfl hb')))))
  all_goals try (refine EW.nm ?_)
  all_goals try ((first | refine EW.eRegL (id := 3) ?_ | refine EW.eReg (id := 3) ?_); refine EW.eMove ?_; fail "no contract of (*mullion/pack.Reader).Uint"; refine EW.eMove ?_; fail "no contract of (*mullion/mullionref05.Reader).Uint"; refine EW.eEql ?_; refine EW.eAssign ?_; refine EW.eEnd ?_; (try refine EW.nm ?_))
  all_goals try (with_reducible refine EW.parkK ?_)
  all_goals try ((first | refine EW.eRegL (id := 4) ?_ | refine EW.eReg (id := 4) ?_); refine EW.eEql ?_; refine EW.eAssign ?_; refine EW.eEnd ?_; (try refine EW.nm ?_))
  all_goals try (first | refine EW.eYes (x := Operand.tmp 23) ?_ | refine EW.eNo (x := Operand.tmp 23) ?_ | (refine EW.eCond (x := Operand.tmp 23) ?_ ?_ <;> (intro hb hb'; (try dsimp only at hb'); (try (exfalso; first | omega | with_reducible exact absurd rfl hb')))))
  all_goals try (refine EW.nm ?_)
  all_goals try ((first | refine EW.eRegL (id := 5) ?_ | refine EW.eReg (id := 5) ?_); refine EW.eMove ?_; fail "no contract of (*mullion/pack.Reader).Int"; refine EW.eMove ?_; fail "no contract of (*mullion/mullionref05.Reader).Int"; refine EW.eEql ?_; refine EW.eAssign ?_; refine EW.eEnd ?_; (try refine EW.nm ?_))
  all_goals try (with_reducible refine EW.parkK ?_)
  all_goals try ((first | refine EW.eRegL (id := 6) ?_ | refine EW.eReg (id := 6) ?_); refine EW.eEql ?_; refine EW.eAssign ?_; refine EW.eEnd ?_; (try refine EW.nm ?_))
  all_goals try (first | refine EW.eYes (x := Operand.tmp 30) ?_ | refine EW.eNo (x := Operand.tmp 30) ?_ | (refine EW.eCond (x := Operand.tmp 30) ?_ ?_ <;> (intro hb hb'; (try dsimp only at hb'); (try (exfalso; first | omega | with_reducible exact absurd rfl hb')))))
  all_goals try (refine EW.nm ?_)
  all_goals try ((first | refine EW.eRegL (id := 7) ?_ | refine EW.eReg (id := 7) ?_); refine EW.eMove ?_; refine EW.eFieldAddr (k := 1) ?_; refine EW.eLoad1 ?_; fail "no contract of (*mullion/pack.Reader).Small"; refine EW.eMove ?_; refine EW.eFieldAddr (k := 1) ?_; refine EW.eLoad1 ?_; fail "no contract of (*mullion/mullionref05.Reader).Small"; refine EW.eEql ?_; refine EW.eAssign ?_; refine EW.eDraw ?_; (try refine EW.nm ?_))
  all_goals try (with_reducible refine EW.parkK ?_)
  all_goals try ((first | refine EW.eRegL (id := 8) ?_ | refine EW.eReg (id := 8) ?_); refine EW.eEql ?_; refine EW.eAssign ?_; refine EW.eEnd ?_; (try refine EW.nm ?_))
  all_goals try (first | refine EW.eYes (x := Operand.tmp 41) ?_ | refine EW.eNo (x := Operand.tmp 41) ?_ | (refine EW.eCond (x := Operand.tmp 41) ?_ ?_ <;> (intro hb hb'; (try dsimp only at hb'); (try (exfalso; first | omega | with_reducible exact absurd rfl hb')))))
  all_goals try (refine EW.nm ?_)
  all_goals try ((first | refine EW.eRegL (id := 9) ?_ | refine EW.eReg (id := 9) ?_); refine EW.eMove ?_; fail "no contract of (*mullion/pack.Reader).Bit"; refine EW.eMove ?_; fail "no contract of (*mullion/mullionref05.Reader).Bit"; refine EW.eEqlB ?_; refine EW.eAssign ?_; refine EW.eEnd ?_; (try refine EW.nm ?_))
  all_goals try (with_reducible refine EW.parkK ?_)
  all_goals try ((first | refine EW.eRegL (id := 10) ?_ | refine EW.eReg (id := 10) ?_); refine EW.eEql ?_; refine EW.eAssign ?_; refine EW.eEnd ?_; (try refine EW.nm ?_))
  all_goals try (first | refine EW.eYes (x := Operand.tmp 48) ?_ | refine EW.eNo (x := Operand.tmp 48) ?_ | (refine EW.eCond (x := Operand.tmp 48) ?_ ?_ <;> (intro hb hb'; (try dsimp only at hb'); (try (exfalso; first | omega | with_reducible exact absurd rfl hb')))))
  all_goals try (refine EW.nm ?_)
  all_goals try ((first | refine EW.eRegL (id := 11) ?_ | refine EW.eReg (id := 11) ?_); refine EW.eMove ?_; refine EW.eFieldAddr (k := 1) ?_; refine EW.eLoad1 ?_; fail "no contract of (*mullion/pack.Reader).Text"; refine EW.eAssign ?_; refine EW.eEnd ?_; (try refine EW.nm ?_))
  all_goals try ((first | refine EW.eRegL (id := 12) ?_ | refine EW.eReg (id := 12) ?_); refine EW.eMove ?_; refine EW.eFieldAddr (k := 1) ?_; refine EW.eLoad1 ?_; fail "no contract of (*mullion/mullionref05.Reader).Text"; refine EW.eAssign ?_; refine EW.eEnd ?_; (try refine EW.nm ?_))
  all_goals try ((first | refine EW.eRegL (id := 13) ?_ | refine EW.eReg (id := 13) ?_); refine EW.eMove ?_; (first | refine EW.eTextS ?_ | refine EW.eTextG ?_ | refine EW.eTextN ?_); refine EW.eMove ?_; (first | refine EW.eTextS ?_ | refine EW.eTextG ?_ | refine EW.eTextN ?_); refine EW.eStrEq ?_; refine EW.eAssign ?_; refine EW.eEnd ?_; (try refine EW.nm ?_))
  all_goals try ((first | refine EW.eRegL (id := 14) ?_ | refine EW.eReg (id := 14) ?_); refine EW.eMove ?_; (first | refine EW.eLenS ?_ | refine EW.eLenG ?_ | refine EW.eLenN ?_); refine EW.eMove ?_; refine EW.eEnd ?_; (try refine EW.nm ?_))
  all_goals try (refine EW.eUnroll 6 ?_)
  all_goals try (refine EW.nm ?_)
  iterate 6 (
    all_goals try ((first | refine EW.eRegL (id := 15) ?_ | refine EW.eReg (id := 15) ?_); refine EW.eLss ?_; refine EW.eEnd ?_; (try refine EW.nm ?_))
    all_goals try (first | refine EW.eYes (x := Operand.tmp 66) ?_ | refine EW.eNo (x := Operand.tmp 66) ?_ | (refine EW.eCond (x := Operand.tmp 66) ?_ ?_ <;> (intro hb hb'; (try dsimp only at hb'); (try (exfalso; first | omega | with_reducible exact absurd rfl hb')))))
    all_goals try (refine EW.nm ?_)
    all_goals try ((first | refine EW.eRegL (id := 16) ?_ | refine EW.eReg (id := 16) ?_); refine EW.eMove ?_; refine EW.eAssign ?_; refine EW.eEnd ?_; (try refine EW.nm ?_))
    all_goals try ((first | refine EW.eRegL (id := 17) ?_ | refine EW.eReg (id := 17) ?_); refine EW.eMove ?_; refine EW.eMove ?_; refine EW.eMove ?_; refine EW.eMove ?_; (first | refine EW.eIndexAddrS (z := 1) ?_ | refine EW.eIndexAddrG (z := 1) ?_); refine EW.eLoad1 ?_; refine EW.eAdd ?_; (first | refine EW.eIndexAddrS (z := 1) ?_ | refine EW.eIndexAddrG (z := 1) ?_); (first | refine EW.eStoreW (k := 1) ?_ | refine EW.eStore (k := 1) ?_); refine EW.eEnd ?_; (try refine EW.nm ?_))
    all_goals try ((first | refine EW.eRegL (id := 18) ?_ | refine EW.eReg (id := 18) ?_); refine EW.eAdd ?_; refine EW.eMove ?_; refine EW.eEnd ?_; (try refine EW.nm ?_)))
  all_goals try ((first | refine EW.eRegL (id := 19) ?_ | refine EW.eReg (id := 19) ?_); refine EW.eMove ?_; refine EW.eAssign ?_; refine EW.eEnd ?_; (try refine EW.nm ?_))
  all_goals try (with_reducible refine EW.parkK ?_)
  all_goals try ((first | refine EW.eRegL (id := 20) ?_ | refine EW.eReg (id := 20) ?_); refine EW.eEql ?_; refine EW.eAssign ?_; refine EW.eEnd ?_; (try refine EW.nm ?_))
  all_goals try (first | refine EW.eYes (x := Operand.tmp 78) ?_ | refine EW.eNo (x := Operand.tmp 78) ?_ | (refine EW.eCond (x := Operand.tmp 78) ?_ ?_ <;> (intro hb hb'; (try dsimp only at hb'); (try (exfalso; first | omega | with_reducible exact absurd rfl hb')))))
  all_goals try (refine EW.nm ?_)
  all_goals try ((first | refine EW.eRegL (id := 21) ?_ | refine EW.eReg (id := 21) ?_); refine EW.eMove ?_; fail "no contract of (*mullion/pack.Reader).Left"; refine EW.eMove ?_; fail "no contract of (*mullion/mullionref05.Reader).Left"; refine EW.eEql ?_; refine EW.eAssign ?_; refine EW.eEnd ?_; (try refine EW.nm ?_))
  all_goals try (with_reducible refine EW.parkK ?_)
  all_goals try ((first | refine EW.eRegL (id := 22) ?_ | refine EW.eReg (id := 22) ?_); refine EW.eEql ?_; refine EW.eAssign ?_; refine EW.eEnd ?_; (try refine EW.nm ?_))
  all_goals try (first | refine EW.eYes (x := Operand.tmp 85) ?_ | refine EW.eNo (x := Operand.tmp 85) ?_ | (refine EW.eCond (x := Operand.tmp 85) ?_ ?_ <;> (intro hb hb'; (try dsimp only at hb'); (try (exfalso; first | omega | with_reducible exact absurd rfl hb')))))
  all_goals try (refine EW.nm ?_)
  all_goals try ((first | refine EW.eRegL (id := 23) ?_ | refine EW.eReg (id := 23) ?_); refine EW.eMove ?_; fail "no contract of (*mullion/pack.Reader).Spoil"; refine EW.eEnd ?_; (try refine EW.nm ?_))
  all_goals try ((first | refine EW.eRegL (id := 24) ?_ | refine EW.eReg (id := 24) ?_); refine EW.eMove ?_; (first | refine EW.eNil ?_ | refine EW.eNilF ?_ | refine EW.eNilY ?_ | refine EW.eNilP ?_); refine EW.eFieldAddr (k := 1) ?_; (first | refine EW.eStoreW (k := 1) ?_ | refine EW.eStore (k := 1) ?_); refine EW.eEnd ?_; (try refine EW.nm ?_))
  all_goals try ((first | refine EW.eRegL (id := 25) ?_ | refine EW.eReg (id := 25) ?_); refine EW.eEql ?_; refine EW.eAssign ?_; refine EW.eEnd ?_; (try refine EW.nm ?_))
  all_goals try (first | refine EW.eYes (x := Operand.tmp 92) ?_ | refine EW.eNo (x := Operand.tmp 92) ?_ | (refine EW.eCond (x := Operand.tmp 92) ?_ ?_ <;> (intro hb hb'; (try dsimp only at hb'); (try (exfalso; first | omega | with_reducible exact absurd rfl hb')))))
  all_goals try (refine EW.nm ?_)
  all_goals try ((first | refine EW.eRegL (id := 26) ?_ | refine EW.eReg (id := 26) ?_); refine EW.eMove ?_; refine EW.eFieldAddr (k := 1) ?_; refine EW.eLoad1 ?_; refine EW.eCallN [0, 1] Try.call40 (hA) ?_; refine EW.eAssign ?_; refine EW.eEnd ?_; (try refine EW.nm ?_))
  all_goals try ((first | refine EW.eRegL (id := 27) ?_ | refine EW.eReg (id := 27) ?_); refine EW.eMove ?_; refine EW.eFieldAddr (k := 1) ?_; refine EW.eLoad1 ?_; refine EW.eCallN [2, 3] Try.call60 (hB) ?_; refine EW.eAssign ?_; refine EW.eEnd ?_; (try refine EW.nm ?_))
  all_goals try ((first | refine EW.eRegL (id := 28) ?_ | refine EW.eReg (id := 28) ?_); refine EW.eMove ?_; (first | refine EW.eLenS ?_ | refine EW.eLenG ?_ | refine EW.eLenN ?_); refine EW.eMove ?_; (first | refine EW.eLenS ?_ | refine EW.eLenG ?_ | refine EW.eLenN ?_); refine EW.eNeq ?_; refine EW.eEnd ?_; (try refine EW.nm ?_))
  all_goals try (first | refine EW.eYes (x := Operand.tmp 106) ?_ | refine EW.eNo (x := Operand.tmp 106) ?_ | (refine EW.eCond (x := Operand.tmp 106) ?_ ?_ <;> (intro hb hb'; (try dsimp only at hb'); (try (exfalso; first | omega | with_reducible exact absurd rfl hb')))))
  all_goals try (refine EW.nm ?_)
  all_goals try ((first | refine EW.eRegL (id := 29) ?_ | refine EW.eReg (id := 29) ?_); refine EW.eAssign ?_; refine EW.eEnd ?_; (try refine EW.nm ?_))
  all_goals try (with_reducible refine EW.parkK ?_)
  all_goals try ((first | refine EW.eRegL (id := 30) ?_ | refine EW.eReg (id := 30) ?_); refine EW.eMove ?_; (first | refine EW.eLenS ?_ | refine EW.eLenG ?_ | refine EW.eLenN ?_); refine EW.eMove ?_; refine EW.eEnd ?_; (try refine EW.nm ?_))
  all_goals try (refine EW.eUnroll 1 ?_)
  all_goals try (refine EW.nm ?_)
  iterate 1 (
    all_goals try ((first | refine EW.eRegL (id := 31) ?_ | refine EW.eReg (id := 31) ?_); refine EW.eLss ?_; refine EW.eEnd ?_; (try refine EW.nm ?_))
    all_goals try (first | refine EW.eYes (x := Operand.tmp 110) ?_ | refine EW.eNo (x := Operand.tmp 110) ?_ | (refine EW.eCond (x := Operand.tmp 110) ?_ ?_ <;> (intro hb hb'; (try dsimp only at hb'); (try (exfalso; first | omega | with_reducible exact absurd rfl hb')))))
    all_goals try (refine EW.nm ?_)
    all_goals try ((first | refine EW.eRegL (id := 32) ?_ | refine EW.eReg (id := 32) ?_); refine EW.eMove ?_; refine EW.eAssign ?_; refine EW.eEnd ?_; (try refine EW.nm ?_))
    all_goals try ((first | refine EW.eRegL (id := 33) ?_ | refine EW.eReg (id := 33) ?_); refine EW.eMove ?_; refine EW.eMove ?_; (first | refine EW.eIndexAddrS (z := 1) ?_ | refine EW.eIndexAddrG (z := 1) ?_); refine EW.eLoad1 ?_; refine EW.eMove ?_; refine EW.eMove ?_; (first | refine EW.eIndexAddrS (z := 1) ?_ | refine EW.eIndexAddrG (z := 1) ?_); refine EW.eLoad1 ?_; refine EW.eNeq ?_; refine EW.eDraw ?_; (try refine EW.nm ?_))
    all_goals try (first | refine EW.eYes (x := Operand.tmp 120) ?_ | refine EW.eNo (x := Operand.tmp 120) ?_ | (refine EW.eCond (x := Operand.tmp 120) ?_ ?_ <;> (intro hb hb'; (try dsimp only at hb'); (try (exfalso; first | omega | with_reducible exact absurd rfl hb')))))
    all_goals try (refine EW.nm ?_)
    all_goals try ((first | refine EW.eRegL (id := 34) ?_ | refine EW.eReg (id := 34) ?_); refine EW.eAssign ?_; refine EW.eEnd ?_; (try refine EW.nm ?_))
    all_goals try (with_reducible refine EW.parkK ?_)
    all_goals try ((first | refine EW.eRegL (id := 35) ?_ | refine EW.eReg (id := 35) ?_); refine EW.eAdd ?_; refine EW.eMove ?_; refine EW.eEnd ?_; (try refine EW.nm ?_)))
  all_goals try ((first | refine EW.eRegL (id := 36) ?_ | refine EW.eReg (id := 36) ?_); refine EW.eAssign ?_; refine EW.eEnd ?_; (try refine EW.nm ?_))
  all_goals try (with_reducible refine EW.parkK ?_)
  all_goals try (refine EW.Park.mk ?_)
  all_goals (refine EW.eLeaveN [] hR (by first | exact .inl rfl | exact .inr rfl) (by rfl) (by rfl) ?_ ?_ rfl rfl (by (((repeat (first | exact EW.NL.emp | (refine EW.NL.upd ?_ rfl) | refine EW.NL.drp ?_ | refine EW.NL.hp ?_ | refine EW.NL.argS ?_ | refine EW.NL.mix ?_)); (first | done | fail)))) rfl rfl; rotate_left 1; (· ((repeat (first | exact EW.atE.nil | refine EW.atE.lt rfl ?_ | refine EW.atE.lf ?_ | refine EW.atE.b rfl EW.SameB.refl ?_ | (refine EW.atE.b rfl ?_ ?_; rotate_left 1))))))
  all_goals rfl
theorem read7 (bs t : List Int) (c : Nat) (p n p' q' : Nat) (u i n' m : Int) (f : Bool) (a : Option Addr) (len cap : Nat) (hc : t.length = c) (hlt : c ≤ 1000000) (hA : CT Try.prog 40 [.c (.p 0 0), .c (.v (.int .i64 m)), .c (.f 59 [])] (upd EW.emp (WR bs p n false)) 2 3 (.c (.g 2 0 c c 1)) (upd (upd EW.emp (WR bs p n false)) [(.b 0, .b (.m true (rcs p' q' false))), (.l 2, .l true), (.b 2, .b (.w true (nums .i64 t)))])) (hB : CT Try.prog 60 [.c (.p 0 0), .c (.v (.int .i64 m))] (upd EW.emp (WD false bs p false)) 2 3 (.c (.g 2 0 c c 1)) (upd (upd EW.emp (WD false bs p false)) [(.b 0, .b (.m true (dcs bs.length p' false))), (.l 2, .l true), (.b 2, .b (.w true (nums .i64 t)))])) : CT Try.prog 26 [.c (.p 0 0), .c (.p 2 0), .a (opc 7 u i n' m f a len cap)] (upd EW.emp (WRD bs p n false)) 4 4 (.c (.v (.bool true))) (upd (upd EW.emp (WRD bs p n false)) [(.b 0, .b (.m true (rcs p' q' false))), (.b 2, .b (.m true (ecs bs.length p' false)))]) := by
  refine EW.ctEnter [10, 20, 30, 40, 50, 60, 70, 80, 90, 100, 110, 120, 130, 140, 150, 160, 170, 180, 190, 200, 210, 220, 230, 240, 250, 260, 270, 280, 290, 300, 310, 320, 330, 340, 350, 360, 370, 380, 390, 400, 410, 420, 430, 440, 450, 460, 470, 480, 490, 500, 510, 520, 530, 540, 550, 560, 570, 580, 590, 600] Try.func26 rfl Try.ntmps26 rfl (by (((repeat (first | exact EW.NL.emp | (refine EW.NL.upd ?_ rfl) | refine EW.NL.drp ?_ | refine EW.NL.hp ?_ | refine EW.NL.argS ?_ | refine EW.NL.mix ?_)); (first | done | fail)))) ?_; intro w0 tch ini R hR
  all_goals try (refine EW.nm ?_)
  all_goals try ((first | refine EW.eRegL (id := 0) ?_ | refine EW.eReg (id := 0) ?_); refine EW.eBox ?_; refine EW.eAssign ?_; refine EW.eEnd ?_; (try refine EW.nm ?_))
  all_goals try ((first | refine EW.eRegL (id := 1) ?_ | refine EW.eReg (id := 1) ?_); refine EW.eFieldAddr (k := 1) ?_; refine EW.eLoad1 ?_; refine EW.eEnd ?_; (try refine EW.nm ?_))
  all_goals try ((first | refine EW.eRegL (id := 2) ?_ | refine EW.eReg (id := 2) ?_); refine EW.eEql ?_; refine EW.eAssign ?_; refine EW.eEnd ?_; (try refine EW.nm ?_))
  all_goals try (first | refine EW.eYes (x := Operand.tmp 16) ?_ | refine EW.eNo (x := Operand.tmp 16) ?_ | (refine EW.eCond (x := Operand.tmp 16) ?_ ?_ <;> (intro hb hb'; (try dsimp only at hb'); (try (exfalso; first | omega | with_reducible exact absurd rfl hb')))))
  all_goals try (refine EW.nm ?_)
  all_goals try ((first | refine EW.eRegL (id := 3) ?_ | refine EW.eReg (id := 3) ?_); refine EW.eMove ?_; fail "no contract of (*mullion/pack.Reader).Uint"; refine EW.eMove ?_; fail "no contract of (*mullion/mullionref05.Reader).Uint"; refine EW.eEql ?_; refine EW.eAssign ?_; refine EW.eEnd ?_; (try refine EW.nm ?_))
  all_goals try (with_reducible refine EW.parkK ?_)
  all_goals try ((first | refine EW.eRegL (id := 4) ?_ | refine EW.eReg (id := 4) ?_); refine EW.eEql ?_; refine EW.eAssign ?_; refine EW.eEnd ?_; (try refine EW.nm ?_))
  all_goals try (first | refine EW.eYes (x := Operand.tmp 23) ?_ | refine EW.eNo (x := Operand.tmp 23) ?_ | (refine EW.eCond (x := Operand.tmp 23) ?_ ?_ <;> (intro hb hb'; (try dsimp only at hb'); (try (exfalso; first | omega | with_reducible exact absurd rfl hb')))))
  all_goals try (refine EW.nm ?_)
  all_goals try ((first | refine EW.eRegL (id := 5) ?_ | refine EW.eReg (id := 5) ?_); refine EW.eMove ?_; fail "no contract of (*mullion/pack.Reader).Int"; refine EW.eMove ?_; fail "no contract of (*mullion/mullionref05.Reader).Int"; refine EW.eEql ?_; refine EW.eAssign ?_; refine EW.eEnd ?_; (try refine EW.nm ?_))
  all_goals try (with_reducible refine EW.parkK ?_)
  all_goals try ((first | refine EW.eRegL (id := 6) ?_ | refine EW.eReg (id := 6) ?_); refine EW.eEql ?_; refine EW.eAssign ?_; refine EW.eEnd ?_; (try refine EW.nm ?_))
  all_goals try (first | refine EW.eYes (x := Operand.tmp 30) ?_ | refine EW.eNo (x := Operand.tmp 30) ?_ | (refine EW.eCond (x := Operand.tmp 30) ?_ ?_ <;> (intro hb hb'; (try dsimp only at hb'); (try (exfalso; first | omega | with_reducible exact absurd rfl hb')))))
  all_goals try (refine EW.nm ?_)
  all_goals try ((first | refine EW.eRegL (id := 7) ?_ | refine EW.eReg (id := 7) ?_); refine EW.eMove ?_; refine EW.eFieldAddr (k := 1) ?_; refine EW.eLoad1 ?_; fail "no contract of (*mullion/pack.Reader).Small"; refine EW.eMove ?_; refine EW.eFieldAddr (k := 1) ?_; refine EW.eLoad1 ?_; fail "no contract of (*mullion/mullionref05.Reader).Small"; refine EW.eEql ?_; refine EW.eAssign ?_; refine EW.eDraw ?_; (try refine EW.nm ?_))
  all_goals try (with_reducible refine EW.parkK ?_)
  all_goals try ((first | refine EW.eRegL (id := 8) ?_ | refine EW.eReg (id := 8) ?_); refine EW.eEql ?_; refine EW.eAssign ?_; refine EW.eEnd ?_; (try refine EW.nm ?_))
  all_goals try (first | refine EW.eYes (x := Operand.tmp 41) ?_ | refine EW.eNo (x := Operand.tmp 41) ?_ | (refine EW.eCond (x := Operand.tmp 41) ?_ ?_ <;> (intro hb hb'; (try dsimp only at hb'); (try (exfalso; first | omega | with_reducible exact absurd rfl hb')))))
  all_goals try (refine EW.nm ?_)
  all_goals try ((first | refine EW.eRegL (id := 9) ?_ | refine EW.eReg (id := 9) ?_); refine EW.eMove ?_; fail "no contract of (*mullion/pack.Reader).Bit"; refine EW.eMove ?_; fail "no contract of (*mullion/mullionref05.Reader).Bit"; refine EW.eEqlB ?_; refine EW.eAssign ?_; refine EW.eEnd ?_; (try refine EW.nm ?_))
  all_goals try (with_reducible refine EW.parkK ?_)
  all_goals try ((first | refine EW.eRegL (id := 10) ?_ | refine EW.eReg (id := 10) ?_); refine EW.eEql ?_; refine EW.eAssign ?_; refine EW.eEnd ?_; (try refine EW.nm ?_))
  all_goals try (first | refine EW.eYes (x := Operand.tmp 48) ?_ | refine EW.eNo (x := Operand.tmp 48) ?_ | (refine EW.eCond (x := Operand.tmp 48) ?_ ?_ <;> (intro hb hb'; (try dsimp only at hb'); (try (exfalso; first | omega | with_reducible exact absurd rfl hb')))))
  all_goals try (refine EW.nm ?_)
  all_goals try ((first | refine EW.eRegL (id := 11) ?_ | refine EW.eReg (id := 11) ?_); refine EW.eMove ?_; refine EW.eFieldAddr (k := 1) ?_; refine EW.eLoad1 ?_; fail "no contract of (*mullion/pack.Reader).Text"; refine EW.eAssign ?_; refine EW.eEnd ?_; (try refine EW.nm ?_))
  all_goals try ((first | refine EW.eRegL (id := 12) ?_ | refine EW.eReg (id := 12) ?_); refine EW.eMove ?_; refine EW.eFieldAddr (k := 1) ?_; refine EW.eLoad1 ?_; fail "no contract of (*mullion/mullionref05.Reader).Text"; refine EW.eAssign ?_; refine EW.eEnd ?_; (try refine EW.nm ?_))
  all_goals try ((first | refine EW.eRegL (id := 13) ?_ | refine EW.eReg (id := 13) ?_); refine EW.eMove ?_; (first | refine EW.eTextS ?_ | refine EW.eTextG ?_ | refine EW.eTextN ?_); refine EW.eMove ?_; (first | refine EW.eTextS ?_ | refine EW.eTextG ?_ | refine EW.eTextN ?_); refine EW.eStrEq ?_; refine EW.eAssign ?_; refine EW.eEnd ?_; (try refine EW.nm ?_))
  all_goals try ((first | refine EW.eRegL (id := 14) ?_ | refine EW.eReg (id := 14) ?_); refine EW.eMove ?_; (first | refine EW.eLenS ?_ | refine EW.eLenG ?_ | refine EW.eLenN ?_); refine EW.eMove ?_; refine EW.eEnd ?_; (try refine EW.nm ?_))
  all_goals try (refine EW.eUnroll 6 ?_)
  all_goals try (refine EW.nm ?_)
  iterate 6 (
    all_goals try ((first | refine EW.eRegL (id := 15) ?_ | refine EW.eReg (id := 15) ?_); refine EW.eLss ?_; refine EW.eEnd ?_; (try refine EW.nm ?_))
    all_goals try (first | refine EW.eYes (x := Operand.tmp 66) ?_ | refine EW.eNo (x := Operand.tmp 66) ?_ | (refine EW.eCond (x := Operand.tmp 66) ?_ ?_ <;> (intro hb hb'; (try dsimp only at hb'); (try (exfalso; first | omega | with_reducible exact absurd rfl hb')))))
    all_goals try (refine EW.nm ?_)
    all_goals try ((first | refine EW.eRegL (id := 16) ?_ | refine EW.eReg (id := 16) ?_); refine EW.eMove ?_; refine EW.eAssign ?_; refine EW.eEnd ?_; (try refine EW.nm ?_))
    all_goals try ((first | refine EW.eRegL (id := 17) ?_ | refine EW.eReg (id := 17) ?_); refine EW.eMove ?_; refine EW.eMove ?_; refine EW.eMove ?_; refine EW.eMove ?_; (first | refine EW.eIndexAddrS (z := 1) ?_ | refine EW.eIndexAddrG (z := 1) ?_); refine EW.eLoad1 ?_; refine EW.eAdd ?_; (first | refine EW.eIndexAddrS (z := 1) ?_ | refine EW.eIndexAddrG (z := 1) ?_); (first | refine EW.eStoreW (k := 1) ?_ | refine EW.eStore (k := 1) ?_); refine EW.eEnd ?_; (try refine EW.nm ?_))
    all_goals try ((first | refine EW.eRegL (id := 18) ?_ | refine EW.eReg (id := 18) ?_); refine EW.eAdd ?_; refine EW.eMove ?_; refine EW.eEnd ?_; (try refine EW.nm ?_)))
  all_goals try ((first | refine EW.eRegL (id := 19) ?_ | refine EW.eReg (id := 19) ?_); refine EW.eMove ?_; refine EW.eAssign ?_; refine EW.eEnd ?_; (try refine EW.nm ?_))
  all_goals try (with_reducible refine EW.parkK ?_)
  all_goals try ((first | refine EW.eRegL (id := 20) ?_ | refine EW.eReg (id := 20) ?_); refine EW.eEql ?_; refine EW.eAssign ?_; refine EW.eEnd ?_; (try refine EW.nm ?_))
  all_goals try (first | refine EW.eYes (x := Operand.tmp 78) ?_ | refine EW.eNo (x := Operand.tmp 78) ?_ | (refine EW.eCond (x := Operand.tmp 78) ?_ ?_ <;> (intro hb hb'; (try dsimp only at hb'); (try (exfalso; first | omega | with_reducible exact absurd rfl hb')))))
  all_goals try (refine EW.nm ?_)
  all_goals try ((first | refine EW.eRegL (id := 21) ?_ | refine EW.eReg (id := 21) ?_); refine EW.eMove ?_; fail "no contract of (*mullion/pack.Reader).Left"; refine EW.eMove ?_; fail "no contract of (*mullion/mullionref05.Reader).Left"; refine EW.eEql ?_; refine EW.eAssign ?_; refine EW.eEnd ?_; (try refine EW.nm ?_))
  all_goals try (with_reducible refine EW.parkK ?_)
  all_goals try ((first | refine EW.eRegL (id := 22) ?_ | refine EW.eReg (id := 22) ?_); refine EW.eEql ?_; refine EW.eAssign ?_; refine EW.eEnd ?_; (try refine EW.nm ?_))
  all_goals try (first | refine EW.eYes (x := Operand.tmp 85) ?_ | refine EW.eNo (x := Operand.tmp 85) ?_ | (refine EW.eCond (x := Operand.tmp 85) ?_ ?_ <;> (intro hb hb'; (try dsimp only at hb'); (try (exfalso; first | omega | with_reducible exact absurd rfl hb')))))
  all_goals try (refine EW.nm ?_)
  all_goals try ((first | refine EW.eRegL (id := 23) ?_ | refine EW.eReg (id := 23) ?_); refine EW.eMove ?_; fail "no contract of (*mullion/pack.Reader).Spoil"; refine EW.eEnd ?_; (try refine EW.nm ?_))
  all_goals try ((first | refine EW.eRegL (id := 24) ?_ | refine EW.eReg (id := 24) ?_); refine EW.eMove ?_; (first | refine EW.eNil ?_ | refine EW.eNilF ?_ | refine EW.eNilY ?_ | refine EW.eNilP ?_); refine EW.eFieldAddr (k := 1) ?_; (first | refine EW.eStoreW (k := 1) ?_ | refine EW.eStore (k := 1) ?_); refine EW.eEnd ?_; (try refine EW.nm ?_))
  all_goals try ((first | refine EW.eRegL (id := 25) ?_ | refine EW.eReg (id := 25) ?_); refine EW.eEql ?_; refine EW.eAssign ?_; refine EW.eEnd ?_; (try refine EW.nm ?_))
  all_goals try (first | refine EW.eYes (x := Operand.tmp 92) ?_ | refine EW.eNo (x := Operand.tmp 92) ?_ | (refine EW.eCond (x := Operand.tmp 92) ?_ ?_ <;> (intro hb hb'; (try dsimp only at hb'); (try (exfalso; first | omega | with_reducible exact absurd rfl hb')))))
  all_goals try (refine EW.nm ?_)
  all_goals try ((first | refine EW.eRegL (id := 26) ?_ | refine EW.eReg (id := 26) ?_); refine EW.eMove ?_; refine EW.eFieldAddr (k := 1) ?_; refine EW.eLoad1 ?_; refine EW.eCallN [0, 1] Try.call40 (hA) ?_; refine EW.eAssign ?_; refine EW.eEnd ?_; (try refine EW.nm ?_))
  all_goals try ((first | refine EW.eRegL (id := 27) ?_ | refine EW.eReg (id := 27) ?_); refine EW.eMove ?_; refine EW.eFieldAddr (k := 1) ?_; refine EW.eLoad1 ?_; refine EW.eCallN [2, 3] Try.call60 (hB) ?_; refine EW.eAssign ?_; refine EW.eEnd ?_; (try refine EW.nm ?_))
  all_goals try ((first | refine EW.eRegL (id := 28) ?_ | refine EW.eReg (id := 28) ?_); refine EW.eMove ?_; (first | refine EW.eLenS ?_ | refine EW.eLenG ?_ | refine EW.eLenN ?_); refine EW.eMove ?_; (first | refine EW.eLenS ?_ | refine EW.eLenG ?_ | refine EW.eLenN ?_); refine EW.eNeq ?_; refine EW.eEnd ?_; (try refine EW.nm ?_))
  all_goals try (first | refine EW.eYes (x := Operand.tmp 106) ?_ | refine EW.eNo (x := Operand.tmp 106) ?_ | (refine EW.eCond (x := Operand.tmp 106) ?_ ?_ <;> (intro hb hb'; (try dsimp only at hb'); (try (exfalso; first | omega | with_reducible exact absurd rfl hb')))))
  all_goals try (refine EW.nm ?_)
  all_goals try ((first | refine EW.eRegL (id := 29) ?_ | refine EW.eReg (id := 29) ?_); refine EW.eAssign ?_; refine EW.eEnd ?_; (try refine EW.nm ?_))
  all_goals try (with_reducible refine EW.parkK ?_)
  all_goals try ((first | refine EW.eRegL (id := 30) ?_ | refine EW.eReg (id := 30) ?_); refine EW.eMove ?_; (first | refine EW.eLenS ?_ | refine EW.eLenG ?_ | refine EW.eLenN ?_); refine EW.eMove ?_; refine EW.eEnd ?_; (try refine EW.nm ?_))
  all_goals first | (fail_if_success (refine EW.eUnroll 1 ?_)) | (refine EW.eLoopD [6, 13, 109, 110, 111, 112, 113, 114, 115, 116, 117, 118, 119, 120, 121] 1000000 (fun y : {y : Nat // y ≤ c} => [(.t 109, .v (.c (.v (.int .i64 y.1))))]) (fun y => c - y.1) (⟨0, by omega⟩) (by ((repeat (first | exact EW.subW.nil | refine EW.subW.cons rfl ?_ | refine EW.subW.conv rfl ?_)); (first | done | fail))) ?_; rintro hcl31 ⟨k, hk⟩; (try dsimp only))
  all_goals try (refine EW.nm ?_)
  all_goals try ((first | refine EW.eRegL (id := 31) ?_ | refine EW.eReg (id := 31) ?_); refine EW.eLss ?_; refine EW.eEnd ?_; (try refine EW.nm ?_))
  all_goals try (first | refine EW.eYes (x := Operand.tmp 110) ?_ | refine EW.eNo (x := Operand.tmp 110) ?_ | (refine EW.eCond (x := Operand.tmp 110) ?_ ?_ <;> (intro hb hb'; (try dsimp only at hb'); (try (exfalso; first | omega | with_reducible exact absurd rfl hb')))))
  all_goals try (refine EW.nm ?_)
  all_goals (try (dsimp only at hk))
  all_goals try ((first | refine EW.eRegL (id := 32) ?_ | refine EW.eReg (id := 32) ?_); refine EW.eMove ?_; refine EW.eAssign ?_; refine EW.eEnd ?_; (try refine EW.nm ?_))
  all_goals try ((first | refine EW.eRegL (id := 33) ?_ | refine EW.eReg (id := 33) ?_); refine EW.eMove ?_; refine EW.eMove ?_; (first | refine EW.eIndexAddrS (z := 1) ?_ | refine EW.eIndexAddrG (z := 1) ?_); refine EW.eLoad1 ?_; refine EW.eMove ?_; refine EW.eMove ?_; (first | refine EW.eIndexAddrS (z := 1) ?_ | refine EW.eIndexAddrG (z := 1) ?_); refine EW.eLoad1 ?_; refine EW.eNeq ?_; refine EW.eDraw ?_; (try refine EW.nm ?_))
  all_goals try (first | refine EW.eYes (x := Operand.tmp 120) ?_ | refine EW.eNo (x := Operand.tmp 120) ?_ | (refine EW.eCond (x := Operand.tmp 120) ?_ ?_ <;> (intro hb hb'; (try dsimp only at hb'); (try (exfalso; first | omega | with_reducible exact absurd rfl hb')))))
  all_goals try (refine EW.nm ?_)
  all_goals try ((first | refine EW.eRegL (id := 34) ?_ | refine EW.eReg (id := 34) ?_); refine EW.eAssign ?_; refine EW.eEnd ?_; (try refine EW.nm ?_))
  all_goals try (with_reducible refine EW.parkK ?_)
  all_goals try ((first | refine EW.eRegL (id := 35) ?_ | refine EW.eReg (id := 35) ?_); refine EW.eAdd ?_; refine EW.eMove ?_; refine EW.eEnd ?_; (try refine EW.nm ?_))
  all_goals first | (fail_if_success (with_reducible refine EW.isLater ?_)) | (refine EW.eLaterD (⟨k + 1, by omega⟩) (by dsimp only; omega) (by ((repeat (first | exact EW.subW.nil | refine EW.subW.cons rfl ?_ | refine EW.subW.conv rfl ?_)); (first | done | fail))) hcl31)
  all_goals try (refine EW.nm ?_)
  all_goals try ((first | refine EW.eRegL (id := 36) ?_ | refine EW.eReg (id := 36) ?_); refine EW.eAssign ?_; refine EW.eEnd ?_; (try refine EW.nm ?_))
  all_goals try (with_reducible refine EW.parkK ?_)
  all_goals try (refine EW.Park.mk ?_)
  all_goals (refine EW.eLeaveN [] hR (by first | exact .inl rfl | exact .inr rfl) (by rfl) (by rfl) ?_ ?_ rfl rfl (by (((repeat (first | exact EW.NL.emp | (refine EW.NL.upd ?_ rfl) | refine EW.NL.drp ?_ | refine EW.NL.hp ?_ | refine EW.NL.argS ?_ | refine EW.NL.mix ?_)); (first | done | fail)))) rfl rfl; rotate_left 1; (· ((repeat (first | exact EW.atE.nil | refine EW.atE.lt rfl ?_ | refine EW.atE.lf ?_ | refine EW.atE.b rfl EW.SameB.refl ?_ | (refine EW.atE.b rfl ?_ ?_; rotate_left 1))))))
  all_goals rfl
theorem rmany_0 (bs : List Int) (p n p' q' : Nat) (lost lost' : Bool) (m : Int) (hS : CT Try.prog 29 [.c (.p 0 0), .c (.v (.int .i64 m))] (upd EW.emp (WR bs p n lost)) 2 2 (.c (.v (.int .i64 ((0 : Nat) : Int)))) (upd (upd EW.emp (WR bs p n lost)) [(.b 0, .b (.m true (rcs p' q' lost')))])) : CT Try.prog 40 [.c (.p 0 0), .c (.v (.int .i64 m)), .c (.f 59 [])] (upd EW.emp (WR bs p n lost)) 2 2 (.c (.v (.slice none 0 0))) (upd (upd EW.emp (WR bs p n lost)) [(.b 0, .b (.m true (rcs p' q' lost')))]) := by
  refine EW.ctEnter [10, 20, 30, 40, 50, 60, 70, 80, 90, 100, 110, 120, 130, 140, 150, 160, 170, 180, 190, 200, 210, 220, 230, 240, 250, 260, 270, 280, 290, 300, 310, 320, 330, 340, 350, 360, 370, 380, 390, 400, 410, 420, 430, 440, 450, 460, 470, 480, 490, 500, 510, 520, 530, 540, 550, 560, 570, 580, 590, 600] Try.func40 rfl Try.ntmps40 rfl (by (((repeat (first | exact EW.NL.emp | (refine EW.NL.upd ?_ rfl) | refine EW.NL.drp ?_ | refine EW.NL.hp ?_ | refine EW.NL.argS ?_ | refine EW.NL.mix ?_)); (first | done | fail)))) ?_; intro w0 tch ini R hR
  all_goals try (refine EW.nm ?_)
  all_goals try ((first | refine EW.eRegL (id := 0) ?_ | refine EW.eReg (id := 0) ?_); refine EW.eAssign ?_; refine EW.eEnd ?_; (try refine EW.nm ?_))
  all_goals try ((first | refine EW.eRegL (id := 1) ?_ | refine EW.eReg (id := 1) ?_); refine EW.eAssign ?_; refine EW.eEnd ?_; (try refine EW.nm ?_))
  all_goals try ((first | refine EW.eRegL (id := 2) ?_ | refine EW.eReg (id := 2) ?_); refine EW.eMove ?_; refine EW.eMove ?_; refine EW.eCallN [0, 1] Try.call29 (hS) ?_; refine EW.eMove ?_; refine EW.eEnd ?_; (try refine EW.nm ?_))
  all_goals try (refine EW.eUnroll 1 ?_)
  all_goals try (refine EW.nm ?_)
  iterate 1 (
    all_goals try ((first | refine EW.eRegL (id := 3) ?_ | refine EW.eReg (id := 3) ?_); refine EW.eLss ?_; refine EW.eEnd ?_; (try refine EW.nm ?_))
    all_goals try (first | refine EW.eYes (x := Operand.tmp 13) ?_ | refine EW.eNo (x := Operand.tmp 13) ?_ | (refine EW.eCond (x := Operand.tmp 13) ?_ ?_ <;> (intro hb hb'; (try dsimp only at hb'); (try (exfalso; first | omega | with_reducible exact absurd rfl hb')))))
    all_goals try (refine EW.nm ?_)
    all_goals try ((first | refine EW.eRegL (id := 4) ?_ | refine EW.eReg (id := 4) ?_); refine EW.eMove ?_; refine EW.eMove ?_; fail "callv"; refine EW.eAssign ?_; refine EW.eEnd ?_; (try refine EW.nm ?_))
    all_goals try ((first | refine EW.eRegL (id := 5) ?_ | refine EW.eReg (id := 5) ?_); refine EW.eMove ?_; fail "no contract of (*mullion/pack.Reader).none"; refine EW.eEnd ?_; (try refine EW.nm ?_))
    all_goals try (first | refine EW.eYes (x := Operand.tmp 18) ?_ | refine EW.eNo (x := Operand.tmp 18) ?_ | (refine EW.eCond (x := Operand.tmp 18) ?_ ?_ <;> (intro hb hb'; (try dsimp only at hb'); (try (exfalso; first | omega | with_reducible exact absurd rfl hb')))))
    all_goals try (refine EW.nm ?_)
    all_goals try ((first | refine EW.eRegL (id := 6) ?_ | refine EW.eReg (id := 6) ?_); refine EW.eAssign ?_; refine EW.eEnd ?_; (try refine EW.nm ?_))
    all_goals try (with_reducible refine EW.parkK ?_)
    all_goals try ((first | refine EW.eRegL (id := 7) ?_ | refine EW.eReg (id := 7) ?_); refine EW.eMove ?_; refine EW.eMove ?_; refine EW.eBuildSlice (k := 1) ?_; (first | refine EW.eAppGW (z := 1) ?_ | refine EW.eAppG (z := 1) ?_ | refine EW.eAppZW (z := 1) ?_ | refine EW.eAppZ (z := 1) ?_ | refine EW.eAppSW (z := 1) ?_ | refine EW.eAppS (z := 1) ?_ | refine EW.eAppNW (z := 1) ?_ | refine EW.eAppN (z := 1) ?_); refine EW.eAssign ?_; refine EW.eEnd ?_; (try refine EW.nm ?_))
    all_goals try ((first | refine EW.eRegL (id := 8) ?_ | refine EW.eReg (id := 8) ?_); refine EW.eAdd ?_; refine EW.eMove ?_; refine EW.eEnd ?_; (try refine EW.nm ?_)))
  all_goals try ((first | refine EW.eRegL (id := 9) ?_ | refine EW.eReg (id := 9) ?_); refine EW.eMove ?_; refine EW.eAssign ?_; refine EW.eEnd ?_; (try refine EW.nm ?_))
  all_goals try (with_reducible refine EW.parkK ?_)
  all_goals try (refine EW.Park.mk ?_)
  all_goals (refine EW.eLeaveN [] hR (by first | exact .inl rfl | exact .inr rfl) (by rfl) (by rfl) ?_ ?_ rfl rfl (by (((repeat (first | exact EW.NL.emp | (refine EW.NL.upd ?_ rfl) | refine EW.NL.drp ?_ | refine EW.NL.hp ?_ | refine EW.NL.argS ?_ | refine EW.NL.mix ?_)); (first | done | fail)))) rfl rfl; rotate_left 1; (· ((repeat (first | exact EW.atE.nil | refine EW.atE.lt rfl ?_ | refine EW.atE.lf ?_ | refine EW.atE.b rfl EW.SameB.refl ?_ | (refine EW.atE.b rfl ?_ ?_; rotate_left 1))))))
  all_goals rfl
theorem dmany_0 (o : Bool) (bs : List Int) (p p' : Nat) (lost lost' : Bool) (m : Int) (hS : CT Try.prog 55 [.c (.p 0 0), .c (.v (.int .i64 m))] (upd EW.emp (WD o bs p lost)) 2 2 (.c (.v (.int .i64 ((0 : Nat) : Int)))) (upd (upd EW.emp (WD o bs p lost)) [(.b 0, .b (.m true (dcs bs.length p' lost')))])) : CT Try.prog 60 [.c (.p 0 0), .c (.v (.int .i64 m))] (upd EW.emp (WD o bs p lost)) 2 2 (.c (.v (.slice none 0 0))) (upd (upd EW.emp (WD o bs p lost)) [(.b 0, .b (.m true (dcs bs.length p' lost')))]) := by
  cases lost'
  all_goals
    refine EW.ctEnter [10, 20, 30, 40, 50, 60, 70, 80, 90, 100, 110, 120, 130, 140, 150, 160, 170, 180, 190, 200, 210, 220, 230, 240, 250, 260, 270, 280, 290, 300, 310, 320, 330, 340, 350, 360, 370, 380, 390, 400, 410, 420, 430, 440, 450, 460, 470, 480, 490, 500, 510, 520, 530, 540, 550, 560, 570, 580, 590, 600] Try.func60 rfl Try.ntmps60 rfl (by (((repeat (first | exact EW.NL.emp | (refine EW.NL.upd ?_ rfl) | refine EW.NL.drp ?_ | refine EW.NL.hp ?_ | refine EW.NL.argS ?_ | refine EW.NL.mix ?_)); (first | done | fail)))) ?_; intro w0 tch ini R hR
    all_goals try (refine EW.nm ?_)
    all_goals try ((first | refine EW.eRegL (id := 0) ?_ | refine EW.eReg (id := 0) ?_); refine EW.eAssign ?_; refine EW.eEnd ?_; (try refine EW.nm ?_))
    all_goals try ((first | refine EW.eRegL (id := 1) ?_ | refine EW.eReg (id := 1) ?_); refine EW.eMove ?_; refine EW.eMove ?_; refine EW.eCallN [0, 1] Try.call55 (hS) ?_; refine EW.eAssign ?_; refine EW.eEnd ?_; (try refine EW.nm ?_))
    all_goals try ((first | refine EW.eRegL (id := 2) ?_ | refine EW.eReg (id := 2) ?_); refine EW.eAssign ?_; refine EW.eEnd ?_; (try refine EW.nm ?_))
    all_goals try ((first | refine EW.eRegL (id := 3) ?_ | refine EW.eReg (id := 3) ?_); refine EW.eAssign ?_; refine EW.eEnd ?_; (try refine EW.nm ?_))
    all_goals try (refine EW.eUnroll 1 ?_)
    all_goals try (refine EW.nm ?_)
    iterate 1 (
      all_goals try ((first | refine EW.eRegL (id := 4) ?_ | refine EW.eReg (id := 4) ?_); refine EW.eMove ?_; refine EW.eMove ?_; refine EW.eLss ?_; refine EW.eMove ?_)
      all_goals try (refine EW.eGuard (j := 3) (o := ⟨some 16, _, _, _, _, _⟩) ?_ ?_ <;> (intro hb hb'; (try dsimp only at hb'); (try (exfalso; first | omega | with_reducible exact absurd rfl hb'))))
      all_goals try ((first | refine EW.eSkipT (j := 3) ?_ | refine EW.eSkipU (j := 3) ?_ | refine EW.eMove ?_); (first | refine EW.eSkipT (j := 3) ?_ | refine EW.eSkipU (j := 3) ?_ | refine EW.eNil ?_ | refine EW.eNilF ?_ | refine EW.eNilY ?_ | refine EW.eNilP ?_); (first | refine EW.eSkipT (j := 3) ?_ | refine EW.eSkipU (j := 3) ?_ | refine EW.eFieldAddr (k := 1) ?_); (first | refine EW.eSkipT (j := 3) ?_ | refine EW.eSkipU (j := 3) ?_ | refine EW.eLoad1 ?_); (first | refine EW.eSkipT (j := 3) ?_ | refine EW.eSkipU (j := 3) ?_ | refine EW.eNot ?_); (first | refine EW.ePickT ?_ | refine EW.ePickF ?_); refine EW.eEnd ?_; (try refine EW.nm ?_))
      all_goals try (first | refine EW.eYes (x := Operand.tmp 21) ?_ | refine EW.eNo (x := Operand.tmp 21) ?_ | (refine EW.eCond (x := Operand.tmp 21) ?_ ?_ <;> (intro hb hb'; (try dsimp only at hb'); (try (exfalso; first | omega | with_reducible exact absurd rfl hb')))))
      all_goals try (refine EW.nm ?_)
      all_goals try ((first | refine EW.eRegL (id := 6) ?_ | refine EW.eReg (id := 6) ?_); refine EW.eMove ?_; fail "no contract of (*mullion/mullionref05.Reader).Int"; refine EW.eAssign ?_; refine EW.eEnd ?_; (try refine EW.nm ?_))
      all_goals try ((first | refine EW.eRegL (id := 7) ?_ | refine EW.eReg (id := 7) ?_); refine EW.eMove ?_; refine EW.eMove ?_; refine EW.eBuildSlice (k := 1) ?_; (first | refine EW.eAppGW (z := 1) ?_ | refine EW.eAppG (z := 1) ?_ | refine EW.eAppZW (z := 1) ?_ | refine EW.eAppZ (z := 1) ?_ | refine EW.eAppSW (z := 1) ?_ | refine EW.eAppS (z := 1) ?_ | refine EW.eAppNW (z := 1) ?_ | refine EW.eAppN (z := 1) ?_); refine EW.eAssign ?_; refine EW.eEnd ?_; (try refine EW.nm ?_))
      all_goals try ((first | refine EW.eRegL (id := 5) ?_ | refine EW.eReg (id := 5) ?_); refine EW.eMove ?_; refine EW.eAdd ?_; refine EW.eAssign ?_; refine EW.eEnd ?_; (try refine EW.nm ?_)))
    all_goals try ((first | refine EW.eRegL (id := 8) ?_ | refine EW.eReg (id := 8) ?_); refine EW.eMove ?_; (first | refine EW.eNil ?_ | refine EW.eNilF ?_ | refine EW.eNilY ?_ | refine EW.eNilP ?_); refine EW.eFieldAddr (k := 1) ?_; refine EW.eLoad1 ?_; refine EW.eEnd ?_; (try refine EW.nm ?_))
    all_goals try (first | refine EW.eYes (x := Operand.tmp 33) ?_ | refine EW.eNo (x := Operand.tmp 33) ?_ | (refine EW.eCond (x := Operand.tmp 33) ?_ ?_ <;> (intro hb hb'; (try dsimp only at hb'); (try (exfalso; first | omega | with_reducible exact absurd rfl hb')))))
    all_goals try (refine EW.nm ?_)
    all_goals try ((first | refine EW.eRegL (id := 9) ?_ | refine EW.eReg (id := 9) ?_); refine EW.eAssign ?_; refine EW.eEnd ?_; (try refine EW.nm ?_))
    all_goals try (with_reducible refine EW.parkK ?_)
    all_goals try ((first | refine EW.eRegL (id := 10) ?_ | refine EW.eReg (id := 10) ?_); refine EW.eMove ?_; refine EW.eAssign ?_; refine EW.eEnd ?_; (try refine EW.nm ?_))
    all_goals try (with_reducible refine EW.parkK ?_)
    all_goals try (refine EW.Park.mk ?_)
    all_goals (refine EW.eLeaveN [] hR (by first | exact .inl rfl | exact .inr rfl) (by rfl) (by rfl) ?_ ?_ rfl rfl (by (((repeat (first | exact EW.NL.emp | (refine EW.NL.upd ?_ rfl) | refine EW.NL.drp ?_ | refine EW.NL.hp ?_ | refine EW.NL.argS ?_ | refine EW.NL.mix ?_)); (first | done | fail)))) rfl rfl; rotate_left 1; (· ((repeat (first | exact EW.atE.nil | refine EW.atE.lt rfl ?_ | refine EW.atE.lf ?_ | refine EW.atE.b rfl EW.SameB.refl ?_ | (refine EW.atE.b rfl ?_ ?_; rotate_left 1))))))
    all_goals rfl
section
variable {bs : List Int} {p n : Nat} (hy : By bs) (hn : p + n = bs.length) (hl : bs.length ≤ 1000000)
include hy hn hl
/-- What a call of Small does with both. -/
theorem small_any (m : Int) (hm : m ≤ 1099511627776) (lost : Bool) : ∃ (v : Nat) (p' q' : Nat) (lost' : Bool), p' + q' = bs.length ∧ (v : Int) ≤ max m 0 ∧ (lost' = false → lost = false) ∧ (lost' = true → v = 0 ∧ p' = p) ∧ CT Try.prog 29 [.c (.p 0 0), .c (.v (.int .i64 m))] (upd EW.emp (WR bs p n lost)) 2 2 (.c (.v (.int .i64 v))) (upd (upd EW.emp (WR bs p n lost)) [(.b 0, .b (.m true (rcs p' q' lost')))]) ∧ CT Try.prog 55 [.c (.p 0 0), .c (.v (.int .i64 m))] (upd EW.emp (WD false bs p lost)) 2 2 (.c (.v (.int .i64 v))) (upd (upd EW.emp (WD false bs p lost)) [(.b 0, .b (.m true (dcs bs.length p' lost')))]) := by
  rcases Int.lt_or_le m 0 with h0 | h0
  · exact ⟨0, p, n, true, hn, by omega, (fun h => nomatch h), fun _ => ⟨rfl, rfl⟩, rsmall_neg bs p n lost m h0, dsmall_neg false lost bs p m h0⟩
  obtain ⟨k, rfl⟩ := Int.eq_ofNat_of_zero_le h0
  cases lost with
  | true =>
    refine ⟨0, p, n, true, hn, by omega, (fun h => nomatch h), fun _ => ⟨rfl, rfl⟩, ?_, ?_⟩
    · rw [wr_same]; exact rsmall_lost bs p n k (by omega)
    · rw [wd_same]; exact dsmall_lost false bs p k (by omega)
  | false =>
    cases ht : take k (bs.drop p) with
    | none => exact ⟨0, p, n, true, hn, by omega, (fun h => nomatch h), fun _ => ⟨rfl, rfl⟩, rsmall_no bs p n k hy hn hl (by omega) (take_none ht), dsmall_no false bs p n k hy hn hl (by omega) (take_none ht)⟩
    | some x =>
      obtain ⟨h1, h2⟩ := take_some (v := x.1) (k := x.2) ht
      obtain ⟨_, _, h3, _, _⟩ := num_spec (fun x hx => hy x (List.mem_of_mem_drop hx)) h1
      rw [List.length_drop] at h3
      exact ⟨x.1, p + x.2, n - x.2, false, by omega, by omega, fun _ => rfl, (fun h => nomatch h), rsmall_ok bs p n k x.1 x.2 hy hn hl (by omega) h1 h2, dsmall_ok false bs p n k x.1 x.2 hy hn hl (by omega) h1 h2⟩
theorem read_any (k u i n' m : Int) (f : Bool) (a : Option Addr) (len cap : Nat) (lost : Bool) (hm : m ≤ 1099511627776) (hk7 : k = 7 → m ≤ 2000) : ∃ (p' q' : Nat) (lost' : Bool), p' + q' = bs.length ∧ CT Try.prog 26 [.c (.p 0 0), .c (.p 2 0), .a (opc k u i n' m f a len cap)] (upd EW.emp (WRD bs p n lost)) 4 4 (.c (.v (.bool true))) (upd (upd EW.emp (WRD bs p n lost)) [(.b 0, .b (.m true (rcs p' q' lost'))), (.b 2, .b (.m true (ecs bs.length p' lost')))]) := by
  by_cases h0 : k = 0
  · subst h0
    cases lost with
    | true => exact ⟨p, n, true, hn, read0 bs p n p n true true 0 u i n' m f a len cap (by rw [wr_same]; exact runit_lost bs p n) (by rw [wd_same]; exact duint_lost false bs p)⟩
    | false =>
      cases hq : num (bs.drop p) with
      | none => exact ⟨p, n, true, hn, read0 bs p n p n false true 0 u i n' m f a len cap (runit_no bs p n hy hn hl hq) (duint_no false bs p n hy hn hl hq)⟩
      | some x =>
        obtain ⟨_, _, h3, _, _⟩ := num_spec (n := x.1) (k := x.2) (fun x hx => hy x (List.mem_of_mem_drop hx)) hq
        rw [List.length_drop] at h3
        exact ⟨p + x.2, n - x.2, false, by omega, read0 bs p n (p + x.2) (n - x.2) false false x.1 u i n' m f a len cap (runit_ok bs p n x.1 x.2 hy hn hl hq) (duint_ok false bs p n x.1 x.2 hy hn hl hq)⟩
  by_cases h1 : k = 1
  · subst h1
    cases lost with
    | true => exact ⟨p, n, true, hn, read1 bs p n p n true true 0 u i n' m f a len cap (by rw [wr_same]; exact rint_lost bs p n) (by rw [wd_same]; exact dint_lost false bs p)⟩
    | false =>
      cases hq : num (bs.drop p) with
      | none => exact ⟨p, n, true, hn, read1 bs p n p n false true 0 u i n' m f a len cap (rint_no bs p n hy hn hl hq) (dint_no false bs p n hy hn hl hq)⟩
      | some x =>
        obtain ⟨_, _, h3, _, _⟩ := num_spec (n := x.1) (k := x.2) (fun x hx => hy x (List.mem_of_mem_drop hx)) hq
        rw [List.length_drop] at h3
        exact ⟨p + x.2, n - x.2, false, by omega, read1 bs p n (p + x.2) (n - x.2) false false (unfold_ x.1) u i n' m f a len cap (rint_ok bs p n x.1 x.2 hy hn hl hq) (dint_ok false bs p n x.1 x.2 hy hn hl hq)⟩
  by_cases h2 : k = 2
  · subst h2
    obtain ⟨v, p', q', lost', e1, _, _, _, hA, hB⟩ := small_any hy hn hl m hm lost
    exact ⟨p', q', lost', e1, read2 bs p n p' q' lost lost' v u i n' m f a len cap hA hB⟩
  by_cases h3 : k = 3
  · subst h3
    cases lost with
    | true => exact ⟨p, n, true, hn, read3 bs p n p n true true false u i n' m f a len cap (by rw [wr_same]; exact rbit_lost bs p n) (by rw [wd_same]; exact dbit_lost false bs p)⟩
    | false =>
      cases ht : take 1 (bs.drop p) with
      | none => exact ⟨p, n, true, hn, read3 bs p n p n false true false u i n' m f a len cap (rbit_no bs p n hy hn hl (take_none ht)) (dbit_no false bs p n hy hn hl (take_none ht))⟩
      | some x =>
        obtain ⟨h1, h2⟩ := take_some (v := x.1) (k := x.2) ht
        obtain ⟨_, _, h3, _, _⟩ := num_spec (fun x hx => hy x (List.mem_of_mem_drop hx)) h1
        rw [List.length_drop] at h3
        exact ⟨p + x.2, n - x.2, false, by omega, read3 bs p n (p + x.2) (n - x.2) false false _ u i n' m f a len cap (rbit_ok bs p n x.1 x.2 hy hn hl h1 h2) (dbit_ok false bs p n x.1 x.2 hy hn hl h1 h2)⟩
  by_cases h4 : k = 4
  · subst h4
    rcases Int.lt_or_le m 0 with hm0 | hm0
    · cases lost with
      | true => exact ⟨p, n, true, hn, read4n bs p n p n true true u i n' m f a len cap (by rw [wr_same]; exact rtext_lost bs p n m) (dtext_neg false true bs p m hm0)⟩
      | false => exact ⟨p, n, true, hn, read4n bs p n p n false true u i n' m f a len cap (rtext_neg bs p n m hm0) (dtext_neg false false bs p m hm0)⟩
    obtain ⟨j, rfl⟩ := Int.eq_ofNat_of_zero_le hm0
    cases lost with
    | true => exact ⟨p, n, true, hn, read4n bs p n p n true true u i n' j f a len cap (by rw [wr_same]; exact rtext_lost bs p n j) (by rw [wd_same]; exact dtext_lost false bs p j (by omega))⟩
    | false =>
      cases ht : take j (bs.drop p) with
      | none => exact ⟨p, n, true, hn, read4n bs p n p n false true u i n' j f a len cap (rtext_no bs p n j hy hn hl (by omega) (take_none ht)) (dtext_no false bs p n j hy hn hl (by omega) (take_none ht))⟩
      | some x =>
        obtain ⟨h1, h2⟩ := take_some (v := x.1) (k := x.2) ht
        obtain ⟨_, _, h3, _, _⟩ := num_spec (fun x hx => hy x (List.mem_of_mem_drop hx)) h1
        rw [List.length_drop] at h3
        rcases Nat.lt_or_ge n (x.2 + x.1) with h5 | h5
        · exact ⟨p, n, true, hn, read4n bs p n p n false true u i n' j f a len cap (rtext_short bs p n j x.1 x.2 hy hn hl (by omega) h1 h2 h5) (dtext_short false bs p n j x.1 x.2 hy hn hl (by omega) h1 h2 h5)⟩
        · have e : ((bs.drop (p + x.2)).take x.1).length = x.1 := by rw [List.length_take, List.length_drop]; omega
          have hA := rtext_ok bs p n j x.1 x.2 hy hn hl (by omega) h1 h2 h5
          have hB := dtext_ok false bs p n j x.1 x.2 hy hn hl (by omega) h1 h2 h5
          have ht2 : By ((bs.drop (p + x.2)).take x.1) := fun y hy' => hy y (List.mem_of_mem_drop (List.mem_of_mem_take hy'))
          generalize (bs.drop (p + x.2)).take x.1 = t at *
          rw [← e] at hA hB
          refine ⟨p + x.2 + t.length, n - x.2 - t.length, false, by omega, read4 bs t p n _ _ u i n' j f a len cap ht2 (by omega) hA hB⟩
  by_cases h5 : k = 5
  · subst h5
    cases lost with
    | true => exact ⟨p, n, true, hn, read5 bs p n p n true true 0 u i n' m f a len cap (by rw [wr_same]; exact rleft bs p n true) (by rw [wd_same]; exact dleft_t false bs p)⟩
    | false => exact ⟨p, n, false, hn, read5 bs p n p n false false n u i n' m f a len cap (by rw [wr_same]; exact rleft bs p n false) (by rw [wd_same]; exact dleft_f false bs p n hn hl)⟩
  by_cases h6 : k = 6
  · subst h6; exact ⟨p, n, true, hn, read6 bs p n lost u i n' m f a len cap⟩
  by_cases h7 : k = 7
  · subst h7
    obtain ⟨v, p', q', lost', e1, e2, e3, e4, hA, hB⟩ := small_any hy hn hl m hm lost
    rcases Nat.eq_zero_or_pos v with rfl | hv
    · exact ⟨p', q', lost', e1, read7n bs p n p' q' lost lost' u i n' m f a len cap (rmany_0 bs p n p' q' lost lost' m hA) (dmany_0 false bs p p' lost lost' m hB)⟩
    cases lost' with
    | true => have := (e4 rfl).1; omega
    | false =>
      obtain rfl := e3 rfl
      obtain rfl : q' = bs.length - p' := by omega
      have hv2 := hk7 rfl
      by_cases hok : ∀ i, i < v → okI bs p' i
      · have hp := pos_le hy (show p' ≤ bs.length by omega) v hok
        exact ⟨pos bs p' v, bs.length - pos bs p' v, false, by omega, read7 bs (valsI bs p' v) v p n _ _ u i n' m f a len cap (valsI_len _ _ _) (by omega) (rmany_ok bs p n p' v m hy (by omega) hl (by omega) hok hA) (dmany_ok false bs p p' v m hy (by omega) hl (by omega) hok hB)⟩
      · obtain ⟨t, t1, t2, t3⟩ := first_no (p := fun i => okI bs p' i) hok
        have hp := pos_le hy (show p' ≤ bs.length by omega) t t2
        have hno : num (bs.drop (pos bs p' t)) = none := Classical.not_not.1 t3
        exact ⟨pos bs p' t, bs.length - pos bs p' t, true, by omega, read7n bs p n _ _ false true u i n' m f a len cap (rmany_no bs p n p' v t m hy (by omega) hl (by omega) t1 t2 hno hA) (dmany_no false bs p p' v t m hy (by omega) hl (by omega) t1 t2 hno hB)⟩
  · refine ⟨p, n, lost, hn, ?_⟩
    have := readD bs p n lost k u i n' m f a len cap (by omega)
    rw [show upd (upd EW.emp (WRD bs p n lost)) [(.b 0, .b (.m true (rcs p n lost))), (.b 2, .b (.m true (ecs bs.length p lost)))] = upd (upd EW.emp (WRD bs p n lost)) [] from ?_]
    · exact this
    · funext q
      rw [upd_cons, upd_cons, upd_nil]
      split
      · next h => subst h; rfl
      · split
        · next h => subst h; rfl
        · rfl
omit hy hl in
theorem end_both (lost : Bool) : ∃ e : Int, CT Try.prog 25 [.c (.p 0 0)] (upd EW.emp (WR bs p n lost)) 2 2 (.c (.v (.int .i64 e))) (upd (upd EW.emp (WR bs p n lost)) []) ∧ CT Try.prog 27 [.c (.p 0 0)] (upd EW.emp (WD false bs p lost)) 2 2 (.c (.v (.int .i64 e))) (upd (upd EW.emp (WD false bs p lost)) []) := by
  cases lost with
  | true => exact ⟨50, rend bs p n true, dend_t false bs p⟩
  | false =>
    rcases Nat.eq_zero_or_pos n with h | h
    · refine ⟨0, ?_, dend_f false bs p n 0 hn (.inl ⟨h, rfl⟩)⟩
      have := rend bs p n false
      rwa [if_neg (by simp; omega)] at this
    · refine ⟨50, ?_, dend_f false bs p n 50 hn (.inr ⟨h, rfl⟩)⟩
      have := rend bs p n false
      rwa [if_pos (.inr h)] at this
end
end Go.Proofs.Ytnlneihalfekiaa
