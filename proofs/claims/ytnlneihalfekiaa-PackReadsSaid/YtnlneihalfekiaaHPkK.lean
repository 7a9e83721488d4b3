/- Package pack: the reader's Int, Small, Bit. -/
import Derived.Test.YtnlneihalfekiaaHPkF
namespace Go.Proofs.Ytnlneihalfekiaa
set_option linter.unusedSimpArgs false
set_option linter.unusedVariables false
open Go.RowKit EV
open SX (Wr Tv Qu Rm Sh Is conjP eqs_iff eqs_false)
open EW (PlL PlT PlV PlVs LfV Mm Bt Opn GV YT lpOf nums)
set_option maxRecDepth 20000
theorem wrap_i64 (a : Int) (h0 : -9223372036854775808 ≤ a) (h1 : a < 9223372036854775808) : IntKind.i64.wrap a = a := (Wr.i64 (n := a) ⟨by omega, by omega⟩).eq
theorem bt_xor0i (a : Nat) (h : a < 9223372036854775808) : Bt .i64 .xor (a : Int) 0 (a : Int) := by
  refine ⟨?_⟩
  show some (Value.int .i64 (IntKind.i64.wrap ((BitVec.ofInt 64 _ ^^^ BitVec.ofInt 64 _).toNat : Int))) = _
  rw [BitVec.toNat_xor, ofInt64 (by omega) (by omega), Int.toNat_natCast]
  rw [show (BitVec.ofInt 64 0).toNat = 0 by decide, Nat.xor_zero, wrap_i64 _ (by omega) (by omega)]
theorem bt_xor1i (a : Nat) (h : a < 9223372036854775808) : Bt .i64 .xor (a : Int) (-1) (-(a : Int) - 1) := by
  refine ⟨?_⟩
  show some (Value.int .i64 (IntKind.i64.wrap ((BitVec.ofInt 64 _ ^^^ BitVec.ofInt 64 _).toNat : Int))) = _
  have e : BitVec.ofInt 64 (-1) = BitVec.allOnes 64 := by decide
  rw [e, BitVec.xor_allOnes, BitVec.toNat_not, ofInt64 (by omega) (by omega), Int.toNat_natCast]
  have : IntKind.i64.wrap ((2 ^ 64 - 1 - a : Nat) : Int) = -(a : Int) - 1 := by
    rw [show ((2 ^ 64 - 1 - a : Nat) : Int) = 18446744073709551615 - (a : Int) by omega]
    have hm : (18446744073709551615 - (a : Int)) % 18446744073709551616 = 18446744073709551615 - (a : Int) := by omega
    show (if (true && decide ((18446744073709551615 - (a : Int)) % 18446744073709551616 ≥ 9223372036854775808)) = true then (18446744073709551615 - (a : Int)) % 18446744073709551616 - 18446744073709551616 else (18446744073709551615 - (a : Int)) % 18446744073709551616) = _
    rw [hm, if_pos (by rw [Bool.true_and]; exact decide_eq_true (by omega))]
    omega
  rw [this]
theorem rsmall_ok (bs : List Int) (p n m v k : Nat) (hy : By bs) (hn : p + n = bs.length) (hl : bs.length ≤ 1000000) (hm : m < 9223372036854775808) (h : num (bs.drop p) = some (v, k)) (hv : v ≤ m) : CT Try.prog 29 [.c (.p 0 0), .c (.v (.int .i64 m))] (upd EW.emp (WR bs p n false)) 2 2 (.c (.v (.int .i64 v))) (upd (upd EW.emp (WR bs p n false)) [(.b 0, .b (.m true (rcs (p + k) (n - k) false)))]) := by
  have hU := rupto_ok bs p n m v k hy hn hl h hv
  refine EW.ctEnter [10, 20, 30, 40, 50, 60, 70, 80, 90, 100, 110, 120, 130, 140, 150, 160, 170, 180, 190, 200, 210, 220, 230, 240, 250, 260, 270, 280, 290, 300, 310, 320, 330, 340, 350, 360, 370, 380, 390, 400, 410, 420, 430, 440, 450, 460, 470, 480, 490, 500, 510, 520, 530, 540, 550, 560, 570, 580, 590, 600] Try.func29 rfl Try.ntmps29 rfl (by (((repeat (first | exact EW.NL.emp | (refine EW.NL.upd ?_ rfl) | refine EW.NL.drp ?_ | refine EW.NL.hp ?_ | refine EW.NL.argS ?_ | refine EW.NL.mix ?_)); (first | done | fail)))) ?_; intro w0 tch ini R hR
  all_goals try (refine EW.nm ?_)
  all_goals try ((first | refine EW.eRegL (id := 0) ?_ | refine EW.eReg (id := 0) ?_); refine EW.eAssign ?_; refine EW.eEnd ?_; (try refine EW.nm ?_))
  all_goals try ((first | refine EW.eRegL (id := 1) ?_ | refine EW.eReg (id := 1) ?_); refine EW.eMove ?_; refine EW.eLss ?_; refine EW.eEnd ?_; (try refine EW.nm ?_))
  all_goals try (first | refine EW.eYes (x := Operand.tmp 6) ?_ | refine EW.eNo (x := Operand.tmp 6) ?_ | (refine EW.eCond (x := Operand.tmp 6) ?_ ?_ <;> (intro hb hb'; (try dsimp only at hb'); (try (exfalso; first | omega | with_reducible exact absurd rfl hb')))))
  all_goals try (refine EW.nm ?_)
  all_goals try ((first | refine EW.eRegL (id := 2) ?_ | refine EW.eReg (id := 2) ?_); refine EW.eMove ?_; fail "no contract of (*mullion/pack.Reader).Spoil"; refine EW.eEnd ?_; (try refine EW.nm ?_))
  all_goals try ((first | refine EW.eRegL (id := 3) ?_ | refine EW.eReg (id := 3) ?_); refine EW.eAssign ?_; refine EW.eEnd ?_; (try refine EW.nm ?_))
  all_goals try ((first | refine EW.eRegL (id := 4) ?_ | refine EW.eReg (id := 4) ?_); refine EW.eMove ?_; refine EW.eMove ?_; refine EW.eConv ?_; refine EW.eCallN [0, 1] Try.call52 (hU) ?_; refine EW.eConv ?_; refine EW.eAssign ?_; refine EW.eEnd ?_; (try refine EW.nm ?_))
  all_goals (refine EW.eLeaveN [] hR (by first | exact .inl rfl | exact .inr rfl) (by rfl) (by rfl) ?_ ?_ rfl rfl (by (((repeat (first | exact EW.NL.emp | (refine EW.NL.upd ?_ rfl) | refine EW.NL.drp ?_ | refine EW.NL.hp ?_ | refine EW.NL.argS ?_ | refine EW.NL.mix ?_)); (first | done | fail)))) rfl rfl; rotate_left 1; (· ((repeat (first | exact EW.atE.nil | refine EW.atE.lt rfl ?_ | refine EW.atE.lf ?_ | refine EW.atE.b rfl EW.SameB.refl ?_ | (refine EW.atE.b rfl ?_ ?_; rotate_left 1))))))
  all_goals rfl
theorem rsmall_no (bs : List Int) (p n m : Nat) (hy : By bs) (hn : p + n = bs.length) (hl : bs.length ≤ 1000000) (hm : m < 9223372036854775808) (h : ∀ v k, num (bs.drop p) = some (v, k) → m < v) : CT Try.prog 29 [.c (.p 0 0), .c (.v (.int .i64 m))] (upd EW.emp (WR bs p n false)) 2 2 (.c (.v (.int .i64 0))) (upd (upd EW.emp (WR bs p n false)) [(.b 0, .b (.m true (rcs p n true)))]) := by
  have hU := rupto_no bs p n m hy hn hl h
  refine EW.ctEnter [10, 20, 30, 40, 50, 60, 70, 80, 90, 100, 110, 120, 130, 140, 150, 160, 170, 180, 190, 200, 210, 220, 230, 240, 250, 260, 270, 280, 290, 300, 310, 320, 330, 340, 350, 360, 370, 380, 390, 400, 410, 420, 430, 440, 450, 460, 470, 480, 490, 500, 510, 520, 530, 540, 550, 560, 570, 580, 590, 600] Try.func29 rfl Try.ntmps29 rfl (by (((repeat (first | exact EW.NL.emp | (refine EW.NL.upd ?_ rfl) | refine EW.NL.drp ?_ | refine EW.NL.hp ?_ | refine EW.NL.argS ?_ | refine EW.NL.mix ?_)); (first | done | fail)))) ?_; intro w0 tch ini R hR
  all_goals try (refine EW.nm ?_)
  all_goals try ((first | refine EW.eRegL (id := 0) ?_ | refine EW.eReg (id := 0) ?_); refine EW.eAssign ?_; refine EW.eEnd ?_; (try refine EW.nm ?_))
  all_goals try ((first | refine EW.eRegL (id := 1) ?_ | refine EW.eReg (id := 1) ?_); refine EW.eMove ?_; refine EW.eLss ?_; refine EW.eEnd ?_; (try refine EW.nm ?_))
  all_goals try (first | refine EW.eYes (x := Operand.tmp 6) ?_ | refine EW.eNo (x := Operand.tmp 6) ?_ | (refine EW.eCond (x := Operand.tmp 6) ?_ ?_ <;> (intro hb hb'; (try dsimp only at hb'); (try (exfalso; first | omega | with_reducible exact absurd rfl hb')))))
  all_goals try (refine EW.nm ?_)
  all_goals try ((first | refine EW.eRegL (id := 2) ?_ | refine EW.eReg (id := 2) ?_); refine EW.eMove ?_; fail "no contract of (*mullion/pack.Reader).Spoil"; refine EW.eEnd ?_; (try refine EW.nm ?_))
  all_goals try ((first | refine EW.eRegL (id := 3) ?_ | refine EW.eReg (id := 3) ?_); refine EW.eAssign ?_; refine EW.eEnd ?_; (try refine EW.nm ?_))
  all_goals try ((first | refine EW.eRegL (id := 4) ?_ | refine EW.eReg (id := 4) ?_); refine EW.eMove ?_; refine EW.eMove ?_; refine EW.eConv ?_; refine EW.eCallN [0, 1] Try.call52 (hU) ?_; refine EW.eConv ?_; refine EW.eAssign ?_; refine EW.eEnd ?_; (try refine EW.nm ?_))
  all_goals (refine EW.eLeaveN [] hR (by first | exact .inl rfl | exact .inr rfl) (by rfl) (by rfl) ?_ ?_ rfl rfl (by (((repeat (first | exact EW.NL.emp | (refine EW.NL.upd ?_ rfl) | refine EW.NL.drp ?_ | refine EW.NL.hp ?_ | refine EW.NL.argS ?_ | refine EW.NL.mix ?_)); (first | done | fail)))) rfl rfl; rotate_left 1; (· ((repeat (first | exact EW.atE.nil | refine EW.atE.lt rfl ?_ | refine EW.atE.lf ?_ | refine EW.atE.b rfl EW.SameB.refl ?_ | (refine EW.atE.b rfl ?_ ?_; rotate_left 1))))))
  all_goals rfl
theorem rsmall_lost (bs : List Int) (p n m : Nat) (hm : m < 9223372036854775808) : CT Try.prog 29 [.c (.p 0 0), .c (.v (.int .i64 m))] (upd EW.emp (WR bs p n true)) 2 2 (.c (.v (.int .i64 0))) (upd (upd EW.emp (WR bs p n true)) []) := by
  have hU := rupto_lost bs p n m
  refine EW.ctEnter [10, 20, 30, 40, 50, 60, 70, 80, 90, 100, 110, 120, 130, 140, 150, 160, 170, 180, 190, 200, 210, 220, 230, 240, 250, 260, 270, 280, 290, 300, 310, 320, 330, 340, 350, 360, 370, 380, 390, 400, 410, 420, 430, 440, 450, 460, 470, 480, 490, 500, 510, 520, 530, 540, 550, 560, 570, 580, 590, 600] Try.func29 rfl Try.ntmps29 rfl (by (((repeat (first | exact EW.NL.emp | (refine EW.NL.upd ?_ rfl) | refine EW.NL.drp ?_ | refine EW.NL.hp ?_ | refine EW.NL.argS ?_ | refine EW.NL.mix ?_)); (first | done | fail)))) ?_; intro w0 tch ini R hR
  all_goals try (refine EW.nm ?_)
  all_goals try ((first | refine EW.eRegL (id := 0) ?_ | refine EW.eReg (id := 0) ?_); refine EW.eAssign ?_; refine EW.eEnd ?_; (try refine EW.nm ?_))
  all_goals try ((first | refine EW.eRegL (id := 1) ?_ | refine EW.eReg (id := 1) ?_); refine EW.eMove ?_; refine EW.eLss ?_; refine EW.eEnd ?_; (try refine EW.nm ?_))
  all_goals try (first | refine EW.eYes (x := Operand.tmp 6) ?_ | refine EW.eNo (x := Operand.tmp 6) ?_ | (refine EW.eCond (x := Operand.tmp 6) ?_ ?_ <;> (intro hb hb'; (try dsimp only at hb'); (try (exfalso; first | omega | with_reducible exact absurd rfl hb')))))
  all_goals try (refine EW.nm ?_)
  all_goals try ((first | refine EW.eRegL (id := 2) ?_ | refine EW.eReg (id := 2) ?_); refine EW.eMove ?_; fail "no contract of (*mullion/pack.Reader).Spoil"; refine EW.eEnd ?_; (try refine EW.nm ?_))
  all_goals try ((first | refine EW.eRegL (id := 3) ?_ | refine EW.eReg (id := 3) ?_); refine EW.eAssign ?_; refine EW.eEnd ?_; (try refine EW.nm ?_))
  all_goals try ((first | refine EW.eRegL (id := 4) ?_ | refine EW.eReg (id := 4) ?_); refine EW.eMove ?_; refine EW.eMove ?_; refine EW.eConv ?_; refine EW.eCallN [0, 1] Try.call52 (hU) ?_; refine EW.eConv ?_; refine EW.eAssign ?_; refine EW.eEnd ?_; (try refine EW.nm ?_))
  all_goals (refine EW.eLeaveN [] hR (by first | exact .inl rfl | exact .inr rfl) (by rfl) (by rfl) ?_ ?_ rfl rfl (by (((repeat (first | exact EW.NL.emp | (refine EW.NL.upd ?_ rfl) | refine EW.NL.drp ?_ | refine EW.NL.hp ?_ | refine EW.NL.argS ?_ | refine EW.NL.mix ?_)); (first | done | fail)))) rfl rfl; rotate_left 1; (· ((repeat (first | exact EW.atE.nil | refine EW.atE.lt rfl ?_ | refine EW.atE.lf ?_ | refine EW.atE.b rfl EW.SameB.refl ?_ | (refine EW.atE.b rfl ?_ ?_; rotate_left 1))))))
  all_goals rfl
theorem rbit_ok (bs : List Int) (p n v k : Nat) (hy : By bs) (hn : p + n = bs.length) (hl : bs.length ≤ 1000000) (h : num (bs.drop p) = some (v, k)) (hv : v ≤ 1) : CT Try.prog 30 [.c (.p 0 0)] (upd EW.emp (WR bs p n false)) 2 2 (.c (.v (.bool (decide (v = 1))))) (upd (upd EW.emp (WR bs p n false)) [(.b 0, .b (.m true (rcs (p + k) (n - k) false)))]) := by
  have hU := rupto_ok bs p n 1 v k hy hn hl h hv
  have hd : ((v : Int) == 1) = decide (v = 1) := by
    by_cases h1 : v = 1
    · subst h1; rfl
    · rw [decide_eq_false h1, beq_eq_false_iff_ne]; omega
  rcases (by omega : v = 0 ∨ v = 1) with rfl | rfl
  all_goals
    refine EW.ctEnter [10, 20, 30, 40, 50, 60, 70, 80, 90, 100, 110, 120, 130, 140, 150, 160, 170, 180, 190, 200, 210, 220, 230, 240, 250, 260, 270, 280, 290, 300, 310, 320, 330, 340, 350, 360, 370, 380, 390, 400, 410, 420, 430, 440, 450, 460, 470, 480, 490, 500, 510, 520, 530, 540, 550, 560, 570, 580, 590, 600] Try.func30 rfl Try.ntmps30 rfl (by (((repeat (first | exact EW.NL.emp | (refine EW.NL.upd ?_ rfl) | refine EW.NL.drp ?_ | refine EW.NL.hp ?_ | refine EW.NL.argS ?_ | refine EW.NL.mix ?_)); (first | done | fail)))) ?_; intro w0 tch ini R hR
    all_goals try (refine EW.nm ?_)
    all_goals try ((first | refine EW.eRegL (id := 0) ?_ | refine EW.eReg (id := 0) ?_); refine EW.eAssign ?_; refine EW.eEnd ?_; (try refine EW.nm ?_))
    all_goals try ((first | refine EW.eRegL (id := 1) ?_ | refine EW.eReg (id := 1) ?_); refine EW.eMove ?_; refine EW.eCallN [0, 1] Try.call52 (hU) ?_; refine EW.eEql ?_; refine EW.eAssign ?_; refine EW.eEnd ?_; (try refine EW.nm ?_))
    all_goals (refine EW.eLeaveN [] hR (by first | exact .inl rfl | exact .inr rfl) (by rfl) (by rfl) ?_ ?_ rfl rfl (by (((repeat (first | exact EW.NL.emp | (refine EW.NL.upd ?_ rfl) | refine EW.NL.drp ?_ | refine EW.NL.hp ?_ | refine EW.NL.argS ?_ | refine EW.NL.mix ?_)); (first | done | fail)))) rfl rfl; rotate_left 1; (· ((repeat (first | exact EW.atE.nil | refine EW.atE.lt rfl ?_ | refine EW.atE.lf ?_ | refine EW.atE.b rfl EW.SameB.refl ?_ | (refine EW.atE.b rfl ?_ ?_; rotate_left 1))))))
    all_goals rfl
theorem bt_and1 (v : Nat) (h : v < 18446744073709551616) : Bt .u64 .and (v : Int) 1 ((v % 2 : Nat) : Int) := by
  refine ⟨?_⟩
  show some (Value.int .u64 (IntKind.u64.wrap ((BitVec.ofInt 64 _ &&& BitVec.ofInt 64 _).toNat : Int))) = _
  rw [BitVec.toNat_and, ofInt64 (by omega) (by omega), Int.toNat_natCast]
  rw [show (BitVec.ofInt 64 1).toNat = 1 by decide, Nat.and_one_is_mod, wrap64 (by omega)]
theorem unf0 {v : Nat} (h : v % 2 = 0) : (v : Int) / 2 = unfold_ v := by rw [unfold_, if_pos h]; omega
theorem unf1 {v : Nat} (h : v % 2 = 1) : -((v : Int) / 2) - 1 = unfold_ v := by rw [unfold_, if_neg (by omega)]; omega
theorem rint_0 (bs : List Int) (p n v k : Nat) (hy : By bs) (hn : p + n = bs.length) (hl : bs.length ≤ 1000000) (h : num (bs.drop p) = some (v, k)) (hr : v % 2 = 0) : CT Try.prog 28 [.c (.p 0 0)] (upd EW.emp (WR bs p n false)) 2 2 (.c (.v (.int .i64 ((v : Int) / 2)))) (upd (upd EW.emp (WR bs p n false)) [(.b 0, .b (.m true (rcs (p + k) (n - k) false)))]) := by
  obtain ⟨_, _, _, _, hv⟩ := num_spec (fun x hx => hy x (List.mem_of_mem_drop hx)) h
  have hU := runit_ok bs p n v k hy hn hl h
  have hS : ((v / 2 : Nat) : Int) = (v : Int) / 2 := by omega
  have hA : Bt .u64 .and (v : Int) 1 0 := by
    have := bt_and1 v hv
    rw [hr] at this
    exact this
  have hX := bt_xor0i (v / 2) (by omega)
  rw [hS] at hX
  refine EW.ctEnter [10, 20, 30, 40, 50, 60, 70, 80, 90, 100, 110, 120, 130, 140, 150, 160, 170, 180, 190, 200, 210, 220, 230, 240, 250, 260, 270, 280, 290, 300, 310, 320, 330, 340, 350, 360, 370, 380, 390, 400, 410, 420, 430, 440, 450, 460, 470, 480, 490, 500, 510, 520, 530, 540, 550, 560, 570, 580, 590, 600] Try.func28 rfl Try.ntmps28 rfl (by (((repeat (first | exact EW.NL.emp | (refine EW.NL.upd ?_ rfl) | refine EW.NL.drp ?_ | refine EW.NL.hp ?_ | refine EW.NL.argS ?_ | refine EW.NL.mix ?_)); (first | done | fail)))) ?_; intro w0 tch ini R hR
  all_goals try (refine EW.nm ?_)
  all_goals try ((first | refine EW.eRegL (id := 0) ?_ | refine EW.eReg (id := 0) ?_); refine EW.eAssign ?_; refine EW.eEnd ?_; (try refine EW.nm ?_))
  all_goals try ((first | refine EW.eRegL (id := 1) ?_ | refine EW.eReg (id := 1) ?_); refine EW.eMove ?_; refine EW.eCallN [0, 1] Try.call24 (hU) ?_; refine EW.eAssign ?_; refine EW.eEnd ?_; (try refine EW.nm ?_))
  all_goals try ((first | refine EW.eRegL (id := 2) ?_ | refine EW.eReg (id := 2) ?_); refine EW.eMove ?_; refine EW.eShr ?_; refine EW.eConv ?_; refine EW.eMove ?_; refine EW.eAnd ?_ (hr' := hA); refine EW.eConv ?_; refine EW.eNeg ?_; refine EW.eXor ?_ (hr' := hX); refine EW.eAssign ?_; refine EW.eEnd ?_; (try refine EW.nm ?_))
  all_goals (refine EW.eLeaveN [] hR (by first | exact .inl rfl | exact .inr rfl) (by rfl) (by rfl) ?_ ?_ rfl rfl (by (((repeat (first | exact EW.NL.emp | (refine EW.NL.upd ?_ rfl) | refine EW.NL.drp ?_ | refine EW.NL.hp ?_ | refine EW.NL.argS ?_ | refine EW.NL.mix ?_)); (first | done | fail)))) rfl rfl; rotate_left 1; (· ((repeat (first | exact EW.atE.nil | refine EW.atE.lt rfl ?_ | refine EW.atE.lf ?_ | refine EW.atE.b rfl EW.SameB.refl ?_ | (refine EW.atE.b rfl ?_ ?_; rotate_left 1))))))
  all_goals rfl
theorem rint_1 (bs : List Int) (p n v k : Nat) (hy : By bs) (hn : p + n = bs.length) (hl : bs.length ≤ 1000000) (h : num (bs.drop p) = some (v, k)) (hr : v % 2 = 1) : CT Try.prog 28 [.c (.p 0 0)] (upd EW.emp (WR bs p n false)) 2 2 (.c (.v (.int .i64 (-((v : Int) / 2) - 1)))) (upd (upd EW.emp (WR bs p n false)) [(.b 0, .b (.m true (rcs (p + k) (n - k) false)))]) := by
  obtain ⟨_, _, _, _, hv⟩ := num_spec (fun x hx => hy x (List.mem_of_mem_drop hx)) h
  have hU := runit_ok bs p n v k hy hn hl h
  have hS : ((v / 2 : Nat) : Int) = (v : Int) / 2 := by omega
  have hA : Bt .u64 .and (v : Int) 1 1 := by
    have := bt_and1 v hv
    rw [hr] at this
    exact this
  have hX := bt_xor1i (v / 2) (by omega)
  rw [hS] at hX
  refine EW.ctEnter [10, 20, 30, 40, 50, 60, 70, 80, 90, 100, 110, 120, 130, 140, 150, 160, 170, 180, 190, 200, 210, 220, 230, 240, 250, 260, 270, 280, 290, 300, 310, 320, 330, 340, 350, 360, 370, 380, 390, 400, 410, 420, 430, 440, 450, 460, 470, 480, 490, 500, 510, 520, 530, 540, 550, 560, 570, 580, 590, 600] Try.func28 rfl Try.ntmps28 rfl (by (((repeat (first | exact EW.NL.emp | (refine EW.NL.upd ?_ rfl) | refine EW.NL.drp ?_ | refine EW.NL.hp ?_ | refine EW.NL.argS ?_ | refine EW.NL.mix ?_)); (first | done | fail)))) ?_; intro w0 tch ini R hR
  all_goals try (refine EW.nm ?_)
  all_goals try ((first | refine EW.eRegL (id := 0) ?_ | refine EW.eReg (id := 0) ?_); refine EW.eAssign ?_; refine EW.eEnd ?_; (try refine EW.nm ?_))
  all_goals try ((first | refine EW.eRegL (id := 1) ?_ | refine EW.eReg (id := 1) ?_); refine EW.eMove ?_; refine EW.eCallN [0, 1] Try.call24 (hU) ?_; refine EW.eAssign ?_; refine EW.eEnd ?_; (try refine EW.nm ?_))
  all_goals try ((first | refine EW.eRegL (id := 2) ?_ | refine EW.eReg (id := 2) ?_); refine EW.eMove ?_; refine EW.eShr ?_; refine EW.eConv ?_; refine EW.eMove ?_; refine EW.eAnd ?_ (hr' := hA); refine EW.eConv ?_; refine EW.eNeg ?_; refine EW.eXor ?_ (hr' := hX); refine EW.eAssign ?_; refine EW.eEnd ?_; (try refine EW.nm ?_))
  all_goals (refine EW.eLeaveN [] hR (by first | exact .inl rfl | exact .inr rfl) (by rfl) (by rfl) ?_ ?_ rfl rfl (by (((repeat (first | exact EW.NL.emp | (refine EW.NL.upd ?_ rfl) | refine EW.NL.drp ?_ | refine EW.NL.hp ?_ | refine EW.NL.argS ?_ | refine EW.NL.mix ?_)); (first | done | fail)))) rfl rfl; rotate_left 1; (· ((repeat (first | exact EW.atE.nil | refine EW.atE.lt rfl ?_ | refine EW.atE.lf ?_ | refine EW.atE.b rfl EW.SameB.refl ?_ | (refine EW.atE.b rfl ?_ ?_; rotate_left 1))))))
  all_goals rfl
theorem rint_ok (bs : List Int) (p n v k : Nat) (hy : By bs) (hn : p + n = bs.length) (hl : bs.length ≤ 1000000) (h : num (bs.drop p) = some (v, k)) : CT Try.prog 28 [.c (.p 0 0)] (upd EW.emp (WR bs p n false)) 2 2 (.c (.v (.int .i64 (unfold_ v)))) (upd (upd EW.emp (WR bs p n false)) [(.b 0, .b (.m true (rcs (p + k) (n - k) false)))]) := by
  rcases (by omega : v % 2 = 0 ∨ v % 2 = 1) with hr | hr
  · rw [← unf0 hr]; exact rint_0 bs p n v k hy hn hl h hr
  · rw [← unf1 hr]; exact rint_1 bs p n v k hy hn hl h hr
end Go.Proofs.Ytnlneihalfekiaa
