/- ClipInside, ClipRound: the walks of the laws. -/
import Derived.Test.YtleelfdpefmnnaaHClA
import Derived.Test.YtleelfdpefmnnaaHClP
namespace Go.Proofs.Ytleelfdpefmnnaa
set_option linter.unusedSimpArgs false
set_option linter.unusedVariables false
open Go.RowKit EV
open SX (Wr Tv Qu Rm Sh Is conjP eqs_iff eqs_false)
open EW (PlL PlT PlV PlVs LfV Mm Bt Opn GV YT lpOf nums)
set_option maxRecDepth 20000
abbrev W3c (L : List Vx) (b0 b1 b2 b3 c0 c1 c2 c3 d0 d1 d2 d3 : Int) : Ws := [(.l 0, .l true), (.b 0, .b (.w true (vvs L))), (.l 1, .l true), (.b 1, .b (.m true [.v (.int .i64 b0), .v (.int .i64 b1), .v (.int .i64 b2), .v (.int .i64 b3), .v (.int .i64 c0), .v (.int .i64 c1), .v (.int .i64 c2), .v (.int .i64 c3), .v (.int .i64 d0), .v (.int .i64 d1), .v (.int .i64 d2), .v (.int .i64 d3)]))]
abbrev K12 (b0 b1 b2 b3 c0 c1 c2 c3 d0 d1 d2 d3 : Int) : List C := [.v (.int .i64 b0), .v (.int .i64 b1), .v (.int .i64 b2), .v (.int .i64 b3), .v (.int .i64 c0), .v (.int .i64 c1), .v (.int .i64 c2), .v (.int .i64 c3), .v (.int .i64 d0), .v (.int .i64 d1), .v (.int .i64 d2), .v (.int .i64 d3)]
theorem vsame3 (xs : List Vx) (a0 a1 a2 a3 b0 b1 b2 b3 c0 c1 c2 c3 : Int) (hxs : xs.length ≤ 100000) : CT Try.prog 15 [.c (.g 0 0 xs.length xs.length 4), .c (.s 1 0 3 3)] (upd EW.emp (W3c xs a0 a1 a2 a3 b0 b1 b2 b3 c0 c1 c2 c3)) 2 2 (.c (.v (.bool (decide (xs = L3 a0 a1 a2 a3 b0 b1 b2 b3 c0 c1 c2 c3))))) (upd (upd EW.emp (W3c xs a0 a1 a2 a3 b0 b1 b2 b3 c0 c1 c2 c3)) []) := by
  generalize hys : L3 a0 a1 a2 a3 b0 b1 b2 b3 c0 c1 c2 c3 = ys
  have hl3 : ys.length = 3 := by rw [← hys]; rfl
  have hv3 : vvs (L3 a0 a1 a2 a3 b0 b1 b2 b3 c0 c1 c2 c3) = vvs ys := by rw [hys]
  refine EW.ctEnter [10, 20, 30, 40, 50, 60, 70, 80, 90, 100, 110, 120, 130, 140, 150, 160, 170, 180, 190, 200, 210, 220, 230, 240, 250, 260, 270, 280, 290, 300, 310, 320, 330, 340, 350, 360, 370, 380, 390, 400, 410, 420, 430, 440, 450, 460, 470, 480, 490, 500, 510, 520, 530, 540, 550, 560, 570, 580, 590, 600] Try.func15 rfl Try.ntmps15 rfl (by (((repeat (first | exact EW.NL.emp | (refine EW.NL.upd ?_ rfl) | refine EW.NL.drp ?_ | refine EW.NL.hp ?_ | refine EW.NL.argS ?_ | refine EW.NL.mix ?_)); (first | done | fail)))) ?_; intro w0 tch ini R hR
  all_goals try (refine EW.nm ?_)
  all_goals (refine EW.eToW 1 true (vvs (L3 a0 a1 a2 a3 b0 b1 b2 b3 c0 c1 c2 c3)) ?_; rw [hv3]; refine EW.eToG 1 1 4 ?_)
  all_goals try ((first | refine EW.eRegL (id := 0) ?_ | refine EW.eReg (id := 0) ?_); refine EW.eAssign ?_; refine EW.eEnd ?_; (try refine EW.nm ?_))
  all_goals try ((first | refine EW.eRegL (id := 1) ?_ | refine EW.eReg (id := 1) ?_); refine EW.eMove ?_; (first | refine EW.eLenS ?_ | refine EW.eLenG ?_ | refine EW.eLenN ?_); refine EW.eMove ?_; (first | refine EW.eLenS ?_ | refine EW.eLenG ?_ | refine EW.eLenN ?_); refine EW.eNeq ?_; refine EW.eEnd ?_; (try refine EW.nm ?_))
  all_goals try (first | refine EW.eYes (x := Operand.tmp 10) ?_ | refine EW.eNo (x := Operand.tmp 10) ?_ | (refine EW.eCond (x := Operand.tmp 10) ?_ ?_ <;> (intro hb hb'; (try dsimp only at hb'); (try (exfalso; first | omega | with_reducible exact absurd rfl hb')))))
  all_goals try (refine EW.nm ?_)
  all_goals try ((first | refine EW.eRegL (id := 2) ?_ | refine EW.eReg (id := 2) ?_); refine EW.eAssign ?_; refine EW.eEnd ?_; (try refine EW.nm ?_))
  all_goals try ((first | refine EW.eRegL (id := 3) ?_ | refine EW.eReg (id := 3) ?_); refine EW.eAssign ?_; refine EW.eEnd ?_; (try refine EW.nm ?_))
  all_goals first | (fail_if_success (refine EW.eUnroll 1 ?_)) | (refine EW.eLoopD [4, 5, 11, 12, 13, 14, 15, 16, 17, 18, 19, 20, 21, 22, 23, 24, 25] 1000000 (fun j : {i : Nat // i ≤ xs.length ∧ xs.length = ys.length ∧ ∀ q, q < i → xs.getD q Vx.zero = ys.getD q Vx.zero} => [(.t 5, .v (.c (.v (.int .i64 j.1))))]) (fun j => xs.length - j.1) (⟨0, by omega, by omega, fun q h => absurd h (by omega)⟩) (by ((repeat (first | exact EW.subW.nil | refine EW.subW.cons rfl ?_ | refine EW.subW.conv rfl ?_)); (first | done | fail))) ?_; rintro hcl4 ⟨i, hi, hl, hp⟩; (try dsimp only))
  all_goals try (refine EW.nm ?_)
  all_goals try ((first | refine EW.eRegL (id := 4) ?_ | refine EW.eReg (id := 4) ?_); refine EW.eMove ?_; refine EW.eMove ?_; (first | refine EW.eLenS ?_ | refine EW.eLenG ?_ | refine EW.eLenN ?_); refine EW.eLss ?_; refine EW.eEnd ?_; (try refine EW.nm ?_))
  all_goals try (first | refine EW.eYes (x := Operand.tmp 14) ?_ | refine EW.eNo (x := Operand.tmp 14) ?_ | (refine EW.eCond (x := Operand.tmp 14) ?_ ?_ <;> (intro hb hb'; (try dsimp only at hb'); (try (exfalso; first | omega | with_reducible exact absurd rfl hb')))))
  all_goals try (refine EW.nm ?_)
  all_goals try ((first | refine EW.eRegL (id := 6) ?_ | refine EW.eReg (id := 6) ?_); refine EW.eMove ?_; refine EW.eMove ?_; (first | refine EW.eIndexAddrS (z := 4) ?_ | refine EW.eIndexAddrG (z := 4) ?_); refine EW.eLoadA (k := 4) ?_; refine EW.eMove ?_; refine EW.eMove ?_; (first | refine EW.eIndexAddrS (z := 4) ?_ | refine EW.eIndexAddrG (z := 4) ?_); refine EW.eLoadA (k := 4) ?_; refine EW.eNeqA ?_; refine EW.eDraw ?_; (try refine EW.nm ?_))
  all_goals try (first | refine EW.eYes (x := Operand.tmp 25) ?_ | refine EW.eNo (x := Operand.tmp 25) ?_ | (refine EW.eCond (x := Operand.tmp 25) ?_ ?_ <;> (intro hb hb'; (try dsimp only at hb'); (try (exfalso; first | omega | with_reducible exact absurd rfl hb')))))
  all_goals try (refine EW.nm ?_)
  all_goals try ((first | refine EW.eRegL (id := 7) ?_ | refine EW.eReg (id := 7) ?_); refine EW.eAssign ?_; refine EW.eEnd ?_; (try refine EW.nm ?_))
  all_goals try ((first | refine EW.eRegL (id := 5) ?_ | refine EW.eReg (id := 5) ?_); refine EW.eMove ?_; refine EW.eAdd ?_; refine EW.eAssign ?_; refine EW.eEnd ?_; (try refine EW.nm ?_))
  all_goals first | (fail_if_success (with_reducible refine EW.isLater ?_)) | (refine EW.eLaterD (⟨i + 1, by omega, hl, less_succ hp (Vx.ext4 hb')⟩) (by dsimp only; omega) (by ((repeat (first | exact EW.subW.nil | refine EW.subW.cons rfl ?_ | refine EW.subW.conv rfl ?_)); (first | done | fail))) hcl4)
  all_goals try (refine EW.nm ?_)
  all_goals try ((first | refine EW.eRegL (id := 8) ?_ | refine EW.eReg (id := 8) ?_); refine EW.eAssign ?_; refine EW.eEnd ?_; (try refine EW.nm ?_))
  all_goals (refine EW.eSameBK 1 (.m true (K12 a0 a1 a2 a3 b0 b1 b2 b3 c0 c1 c2 c3)) ?_ ?_; (focus exact .inr ⟨true, _, rfl, by rw [← hv3]; rfl⟩))
  all_goals (refine EW.eLeaveN [] hR (by first | exact .inl rfl | exact .inr rfl) (by rfl) (by rfl) ?_ ?_ rfl rfl (by (((repeat (first | exact EW.NL.emp | (refine EW.NL.upd ?_ rfl) | refine EW.NL.drp ?_ | refine EW.NL.hp ?_ | refine EW.NL.argS ?_ | refine EW.NL.mix ?_)); (first | done | fail)))) rfl rfl; rotate_left 1; (· ((repeat (first | exact EW.atE.nil | refine EW.atE.lt rfl ?_ | refine EW.atE.lf ?_ | refine EW.atE.b rfl EW.SameB.refl ?_ | (refine EW.atE.b rfl ?_ ?_; rotate_left 1))))))
  all_goals first | rfl | skip
  all_goals refine congrArg (fun b => V.c (C.v (Value.bool b))) ?_
  all_goals first | exact (decide_eq_true (list_of_getD hl fun q hq => hp q (by omega))).symm | (refine (decide_eq_false fun h => ?_).symm; subst h; omega) | (refine (decide_eq_false fun h => ?_).symm; subst h; exact hb' ⟨rfl, rfl, rfl, rfl⟩)
def eqK (L M : List Vx) (k i : Nat) : Bool := (List.range i).all fun j => decide (M.getD j Vx.zero = L.getD ((j + k) % L.length) Vx.zero)
theorem eqK_succ (L M : List Vx) (k i : Nat) : eqK L M k (i + 1) = (eqK L M k i && decide (M.getD i Vx.zero = L.getD ((i + k) % L.length) Vx.zero)) := by
  simp [eqK, List.range_succ, List.all_append]
theorem eqK_f {L M : List Vx} {k i : Nat} (h : eqK L M k i = false) : false = eqK L M k (i + 1) := by rw [eqK_succ, h]; rfl
theorem eqK_t {L M : List Vx} {k i r : Nat} (h : eqK L M k i = true) (hr : (i + k) % L.length = r) : SX.eqs (M.getD i Vx.zero).vals (L.getD r Vx.zero).vals = eqK L M k (i + 1) := by
  rw [eqK_succ, h, hr, Bool.true_and, Bool.eq_iff_iff, eqs_iff, decide_eq_true_eq]
  simp only [conjP, and_true]
  exact ⟨fun h => Vx.ext4 h, fun h => by rw [h]; exact ⟨rfl, rfl, rfl, rfl⟩⟩
theorem eqK_all {L M : List Vx} {k n : Nat} (h : ∀ i, i < n → M.getD i Vx.zero = L.getD ((i + k) % L.length) Vx.zero) : eqK L M k n = true := by
  rw [eqK, List.all_eq_true]
  intro j hj
  exact decide_eq_true (h j (List.mem_range.1 hj))
theorem rm_ik {i k n r : Nat} (h : (i + k) % n = r) : Rm ((i : Int) + (k : Int)) (n : Int) (r : Int) := ⟨by
  rw [Int.tmod_eq_emod_of_nonneg (by omega), ← h]; rfl⟩
theorem round_walk (a0 a1 a2 a3 b0 b1 b2 b3 c0 c1 c2 c3 : Int) (L M : List Vx) (w : World) (hn : L.length ≤ 42) (hLM : M.length = L.length)
    (hCC : CT Try.prog 12 [.a (K4 a0 a1 a2 a3), .a (K4 b0 b1 b2 b3), .a (K4 c0 c1 c2 c3)] (upd EW.emp []) 0 1 (.t [.inl (.g 0 0 L.length L.length 4), .inl (.v (.int .i64 0))]) (upd (upd EW.emp []) [(.l 0, .l true), (.b 0, .b (.w true (vvs L)))]))
    (hDD : CT Try.prog 12 [.a (K4 b0 b1 b2 b3), .a (K4 c0 c1 c2 c3), .a (K4 a0 a1 a2 a3)] (upd EW.emp []) 0 1 (.t [.inl (.g 0 0 M.length M.length 4), .inl (.v (.int .i64 0))]) (upd (upd EW.emp []) [(.l 0, .l true), (.b 0, .b (.w true (vvs M)))]))
    (hfin : (∀ q, q < L.length → eqK L M q L.length = false) → L.length = 0) :
    Calls Try.prog 7 #[V4 a0 a1 a2 a3, V4 b0 b1 b2 b3, V4 c0 c1 c2 c3] w fun e w' => e = .returned (.bool true) ∧ Below w.heap.size w w' := by
  refine EW.eEnter Try.func7 rfl Try.ntmps7 ?_
  all_goals try (refine EW.nm ?_)
  all_goals try ((first | refine EW.eRegL (id := 0) ?_ | refine EW.eReg (id := 0) ?_); refine EW.eBox ?_; refine EW.eBox ?_; refine EW.eBox ?_; refine EW.eAssign ?_; refine EW.eEnd ?_; (try refine EW.nm ?_))
  all_goals try ((first | refine EW.eRegL (id := 1) ?_ | refine EW.eReg (id := 1) ?_); refine EW.eCall Try.call9 (fun w => calive w) ?_; refine EW.eAssign ?_; refine EW.eEnd ?_; (try refine EW.nm ?_))
  all_goals try ((first | refine EW.eRegL (id := 2) ?_ | refine EW.eReg (id := 2) ?_); refine EW.eLoadA (k := 4) ?_; refine EW.eLoadA (k := 4) ?_; refine EW.eLoadA (k := 4) ?_; (first | refine EW.eCallN [] Try.call12 (hCC) ?_ | refine EW.eCallN [] Try.call12 (hDD) ?_); refine EW.eMove ?_; (first | refine EW.eExtC ?_ | refine EW.eExtA ?_); (first | refine EW.eExtC ?_ | refine EW.eExtA ?_); refine EW.eAssign ?_; refine EW.eAssign ?_; refine EW.eEnd ?_; (try refine EW.nm ?_))
  all_goals try ((first | refine EW.eRegL (id := 3) ?_ | refine EW.eReg (id := 3) ?_); refine EW.eLoadA (k := 4) ?_; refine EW.eLoadA (k := 4) ?_; refine EW.eLoadA (k := 4) ?_; (first | refine EW.eCallN [] Try.call12 (hCC) ?_ | refine EW.eCallN [] Try.call12 (hDD) ?_); refine EW.eMove ?_; (first | refine EW.eExtC ?_ | refine EW.eExtA ?_); (first | refine EW.eExtC ?_ | refine EW.eExtA ?_); refine EW.eAssign ?_; refine EW.eAssign ?_; refine EW.eEnd ?_; (try refine EW.nm ?_))
  all_goals try ((first | refine EW.eRegL (id := 4) ?_ | refine EW.eReg (id := 4) ?_); refine EW.eMove ?_; refine EW.eEql ?_; refine EW.eMove ?_; refine EW.eEql ?_; refine EW.eNeqB ?_; refine EW.eMove ?_)
  all_goals try (refine EW.eGuard (j := 5) (o := ⟨some 36, _, _, _, _, _⟩) ?_ ?_ <;> (intro hb hb'; (try dsimp only at hb'); (try (exfalso; first | omega | with_reducible exact absurd rfl hb'))))
  all_goals try ((first | refine EW.eSkipF (j := 5) ?_ | refine EW.eSkipU (j := 5) ?_ | refine EW.eMove ?_); (first | refine EW.eSkipF (j := 5) ?_ | refine EW.eSkipU (j := 5) ?_ | refine EW.eLenS ?_ | refine EW.eLenG ?_ | refine EW.eLenN ?_); (first | refine EW.eSkipF (j := 5) ?_ | refine EW.eSkipU (j := 5) ?_ | refine EW.eMove ?_); (first | refine EW.eSkipF (j := 5) ?_ | refine EW.eSkipU (j := 5) ?_ | refine EW.eLenS ?_ | refine EW.eLenG ?_ | refine EW.eLenN ?_); (first | refine EW.eSkipF (j := 5) ?_ | refine EW.eSkipU (j := 5) ?_ | refine EW.eNeq ?_); (first | refine EW.ePickT ?_ | refine EW.ePickF ?_); refine EW.eEnd ?_; (try refine EW.nm ?_))
  all_goals try (first | refine EW.eYes (x := Operand.tmp 41) ?_ | refine EW.eNo (x := Operand.tmp 41) ?_ | (refine EW.eCond (x := Operand.tmp 41) ?_ ?_ <;> (intro hb hb'; (try dsimp only at hb'); (try (exfalso; first | omega | with_reducible exact absurd rfl hb')))))
  all_goals try (refine EW.nm ?_)
  all_goals try ((first | refine EW.eRegL (id := 5) ?_ | refine EW.eReg (id := 5) ?_); refine EW.eAssign ?_; refine EW.eEnd ?_; (try refine EW.nm ?_))
  all_goals try ((first | refine EW.eRegL (id := 6) ?_ | refine EW.eReg (id := 6) ?_); refine EW.eAssign ?_; refine EW.eEnd ?_; (try refine EW.nm ?_))
  all_goals first | (fail_if_success (refine EW.eUnroll 1 ?_)) | (refine EW.eLoopD [6, 12, 13, 14, 42, 43, 44, 45, 46, 47, 48, 49, 50, 51, 52, 53, 54, 55, 56, 57, 58, 59, 60, 61, 62, 63, 64, 65, 66, 67, 68, 69, 70, 71, 72] 1000000 (fun j : {k : Nat // k ≤ L.length ∧ ∀ q, q < k → eqK L M q L.length = false} => [(.t 12, .v (.c (.v (.int .i64 j.1))))]) (fun j => L.length - j.1) (⟨0, by omega, fun q h => absurd h (by omega)⟩) (by ((repeat (first | exact EW.subW.nil | refine EW.subW.cons rfl ?_ | refine EW.subW.conv rfl ?_)); (first | done | fail))) ?_; rintro hcl7 ⟨k, hk, hp⟩; (try dsimp only))
  all_goals try (refine EW.nm ?_)
  all_goals try ((first | refine EW.eRegL (id := 7) ?_ | refine EW.eReg (id := 7) ?_); refine EW.eMove ?_; refine EW.eMove ?_; (first | refine EW.eLenS ?_ | refine EW.eLenG ?_ | refine EW.eLenN ?_); refine EW.eLss ?_; refine EW.eEnd ?_; (try refine EW.nm ?_))
  all_goals try (first | refine EW.eYes (x := Operand.tmp 45) ?_ | refine EW.eNo (x := Operand.tmp 45) ?_ | (refine EW.eCond (x := Operand.tmp 45) ?_ ?_ <;> (intro hb hb'; (try dsimp only at hb'); (try (exfalso; first | omega | with_reducible exact absurd rfl hb')))))
  all_goals try (refine EW.nm ?_)
  all_goals try ((first | refine EW.eRegL (id := 9) ?_ | refine EW.eReg (id := 9) ?_); refine EW.eAssign ?_; refine EW.eEnd ?_; (try refine EW.nm ?_))
  all_goals try ((first | refine EW.eRegL (id := 10) ?_ | refine EW.eReg (id := 10) ?_); refine EW.eMove ?_; (first | refine EW.eLenS ?_ | refine EW.eLenG ?_ | refine EW.eLenN ?_); refine EW.eMove ?_; refine EW.eEnd ?_; (try refine EW.nm ?_))
  all_goals first | (fail_if_success (refine EW.eUnroll 1 ?_)) | (refine EW.eLoopD [13, 14, 50, 51, 52, 53, 54, 55, 56, 57, 58, 59, 60, 61, 62, 63, 64, 65, 66, 67, 68, 69, 70] 1000000 (fun j : {i : Nat // i ≤ L.length} => [(.t 50, .v (.c (.v (.int .i64 j.1)))), (.t 13, .v (.c (.v (.bool (eqK L M k j.1)))))]) (fun j => L.length - j.1) (⟨0, by omega⟩) (by ((repeat (first | exact EW.subW.nil | refine EW.subW.cons rfl ?_ | refine EW.subW.conv rfl ?_ (by first | exact EW.kvB (eqK_t (by assumption) hr) | exact EW.kvB (eqK_f (by assumption)) | exact EW.kvB (by rfl)) | refine EW.subW.conv rfl ?_)); (first | done | fail))) ?_; rintro hcl11 ⟨i, hi⟩; (try dsimp only))
  all_goals try (refine EW.nm ?_)
  all_goals try ((first | refine EW.eRegL (id := 11) ?_ | refine EW.eReg (id := 11) ?_); refine EW.eLss ?_; refine EW.eEnd ?_; (try refine EW.nm ?_))
  all_goals try (first | refine EW.eYes (x := Operand.tmp 51) ?_ | refine EW.eNo (x := Operand.tmp 51) ?_ | (refine EW.eCond (x := Operand.tmp 51) ?_ ?_ <;> (intro hb hb'; (try dsimp only at hb'); (try (exfalso; first | omega | with_reducible exact absurd rfl hb')))))
  all_goals try (refine EW.nm ?_)
  all_goals try ((first | refine EW.eRegL (id := 12) ?_ | refine EW.eReg (id := 12) ?_); refine EW.eMove ?_; refine EW.eAssign ?_; refine EW.eEnd ?_; (try refine EW.nm ?_))
  all_goals (try (obtain ⟨r, hr⟩ : ∃ r, (i + k) % L.length = r := ⟨_, rfl⟩; have hrl : r < L.length := (by rw [← hr]; exact Nat.mod_lt _ (by omega)); have hrem := rm_ik hr))
  all_goals try ((first | refine EW.eRegL (id := 13) ?_ | refine EW.eReg (id := 13) ?_); refine EW.eMove ?_; refine EW.eMove ?_)
  all_goals try (refine EW.eGuard (j := 1) (o := ⟨some 55, _, _, _, _, _⟩) ?_ ?_ <;> (intro hb hb'; (try dsimp only at hb'); (try (exfalso; first | omega | with_reducible exact absurd rfl hb'))))
  all_goals try ((first | refine EW.eSkipT (j := 1) ?_ | refine EW.eSkipU (j := 1) ?_ | refine EW.eMove ?_); (first | refine EW.eSkipT (j := 1) ?_ | refine EW.eSkipU (j := 1) ?_ | refine EW.eMove ?_); (first | refine EW.eSkipT (j := 1) ?_ | refine EW.eSkipU (j := 1) ?_ | refine EW.eIndexAddrS (z := 4) ?_ | refine EW.eIndexAddrG (z := 4) ?_); (first | refine EW.eSkipT (j := 1) ?_ | refine EW.eSkipU (j := 1) ?_ | refine EW.eLoadA (k := 4) ?_); (first | refine EW.eSkipT (j := 1) ?_ | refine EW.eSkipU (j := 1) ?_ | refine EW.eMove ?_); (first | refine EW.eSkipT (j := 1) ?_ | refine EW.eSkipU (j := 1) ?_ | refine EW.eMove ?_); (first | refine EW.eSkipT (j := 1) ?_ | refine EW.eSkipU (j := 1) ?_ | refine EW.eMove ?_); (first | refine EW.eSkipT (j := 1) ?_ | refine EW.eSkipU (j := 1) ?_ | refine EW.eAdd ?_); (first | refine EW.eSkipT (j := 1) ?_ | refine EW.eSkipU (j := 1) ?_ | refine EW.eMove ?_); (first | refine EW.eSkipT (j := 1) ?_ | refine EW.eSkipU (j := 1) ?_ | refine EW.eLenS ?_ | refine EW.eLenG ?_ | refine EW.eLenN ?_); (first | refine EW.eSkipT (j := 1) ?_ | refine EW.eSkipU (j := 1) ?_ | refine EW.eRem ?_ (hr' := hrem)); (first | refine EW.eSkipT (j := 1) ?_ | refine EW.eSkipU (j := 1) ?_ | refine EW.eIndexAddrS (z := 4) ?_ | refine EW.eIndexAddrG (z := 4) ?_); (first | refine EW.eSkipT (j := 1) ?_ | refine EW.eSkipU (j := 1) ?_ | refine EW.eLoadA (k := 4) ?_); (first | refine EW.eSkipT (j := 1) ?_ | refine EW.eSkipU (j := 1) ?_ | refine EW.eEqlA ?_); (first | refine EW.ePickT ?_ | refine EW.ePickF ?_); refine EW.eAssign ?_; refine EW.eDraw ?_; (try refine EW.nm ?_))
  all_goals try ((first | refine EW.eRegL (id := 14) ?_ | refine EW.eReg (id := 14) ?_); refine EW.eAdd ?_; refine EW.eMove ?_; refine EW.eEnd ?_; (try refine EW.nm ?_))
  all_goals first | (fail_if_success (with_reducible refine EW.isLater ?_)) | (refine EW.eLaterD (⟨i + 1, by omega⟩) (by dsimp only; omega) (by ((repeat (first | exact EW.subW.nil | refine EW.subW.cons rfl ?_ | refine EW.subW.conv rfl ?_ (by first | exact EW.kvB (eqK_t (by assumption) hr) | exact EW.kvB (eqK_f (by assumption)) | exact EW.kvB (by rfl)) | refine EW.subW.conv rfl ?_)); (first | done | fail))) hcl11)
  all_goals try (refine EW.nm ?_)
  all_goals try ((first | refine EW.eRegL (id := 15) ?_ | refine EW.eReg (id := 15) ?_); refine EW.eMove ?_; refine EW.eEnd ?_; (try refine EW.nm ?_))
  all_goals try (first | refine EW.eYes (x := Operand.tmp 71) ?_ | refine EW.eNo (x := Operand.tmp 71) ?_ | (refine EW.eCond (x := Operand.tmp 71) ?_ ?_ <;> (intro hb hb'; (try dsimp only at hb'); (try (exfalso; first | omega | with_reducible exact absurd rfl hb')))))
  all_goals try (refine EW.nm ?_)
  all_goals try ((first | refine EW.eRegL (id := 16) ?_ | refine EW.eReg (id := 16) ?_); refine EW.eMove ?_; refine EW.eAssign ?_; refine EW.eEnd ?_; (try refine EW.nm ?_))
  all_goals try ((first | refine EW.eRegL (id := 8) ?_ | refine EW.eReg (id := 8) ?_); refine EW.eMove ?_; refine EW.eAdd ?_; refine EW.eAssign ?_; refine EW.eEnd ?_; (try refine EW.nm ?_))
  all_goals first | (fail_if_success (with_reducible refine EW.isLater ?_)) | (refine EW.eLaterD (⟨k + 1, by omega, less_succ hp (by rw [show L.length = i by omega]; exact hb')⟩) (by dsimp only; omega) (by ((repeat (first | exact EW.subW.nil | refine EW.subW.cons rfl ?_ | refine EW.subW.conv rfl ?_)); (first | done | fail))) hcl7)
  all_goals try (refine EW.nm ?_)
  all_goals (try (have h0 := hfin (fun q hq => hp q (by omega))))
  all_goals try ((first | refine EW.eRegL (id := 17) ?_ | refine EW.eReg (id := 17) ?_); refine EW.eMove ?_; refine EW.eMove ?_)
  all_goals try (refine EW.eGuard (j := 1) (o := ⟨some 75, _, _, _, _, _⟩) ?_ ?_ <;> (intro hb hb'; (try dsimp only at hb'); (try (exfalso; first | omega | with_reducible exact absurd rfl hb'))))
  all_goals try ((first | refine EW.eSkipT (j := 1) ?_ | refine EW.eSkipU (j := 1) ?_ | refine EW.eMove ?_); (first | refine EW.eSkipT (j := 1) ?_ | refine EW.eSkipU (j := 1) ?_ | refine EW.eLenS ?_ | refine EW.eLenG ?_ | refine EW.eLenN ?_); (first | refine EW.eSkipT (j := 1) ?_ | refine EW.eSkipU (j := 1) ?_ | refine EW.eEql ?_); (first | refine EW.ePickT ?_ | refine EW.ePickF ?_); refine EW.eAssign ?_; refine EW.eEnd ?_; (try refine EW.nm ?_))
  all_goals (refine EW.eLeaveP ?_; intro w' hW; refine ⟨?_, hW⟩)
  all_goals rfl
theorem round_no (a b c : Vx) (t t' : Nat) (ht : t < 3) (hs : ∀ i, i < t → ([a, b, c].getD i Vx.zero).sm) (hno : ¬ ([a, b, c].getD t Vx.zero).sm) (ht' : t' < 3) (hs' : ∀ i, i < t' → ([b, c, a].getD i Vx.zero).sm) (hno' : ¬ ([b, c, a].getD t' Vx.zero).sm) (w : World) : Calls Try.prog 7 #[a.val, b.val, c.val] w fun e w' => e = .returned (.bool true) ∧ Below w.heap.size w w' := by
  have hCC := Clip_no a b c t ht hs hno
  have hDD := Clip_no b c a t' ht' hs' hno'
  obtain ⟨a0, a1, a2, a3⟩ := a
  obtain ⟨b0, b1, b2, b3⟩ := b
  obtain ⟨c0, c1, c2, c3⟩ := c
  refine EW.eEnter Try.func7 rfl Try.ntmps7 ?_
  all_goals try (refine EW.nm ?_)
  all_goals try ((first | refine EW.eRegL (id := 0) ?_ | refine EW.eReg (id := 0) ?_); refine EW.eBox ?_; refine EW.eBox ?_; refine EW.eBox ?_; refine EW.eAssign ?_; refine EW.eEnd ?_; (try refine EW.nm ?_))
  all_goals try ((first | refine EW.eRegL (id := 1) ?_ | refine EW.eReg (id := 1) ?_); refine EW.eCall Try.call9 (fun w => calive w) ?_; refine EW.eAssign ?_; refine EW.eEnd ?_; (try refine EW.nm ?_))
  all_goals try ((first | refine EW.eRegL (id := 2) ?_ | refine EW.eReg (id := 2) ?_); refine EW.eLoadA (k := 4) ?_; refine EW.eLoadA (k := 4) ?_; refine EW.eLoadA (k := 4) ?_; (first | refine EW.eCallN [] Try.call12 (hCC) ?_ | refine EW.eCallN [] Try.call12 (hDD) ?_); refine EW.eMove ?_; (first | refine EW.eExtC ?_ | refine EW.eExtA ?_); (first | refine EW.eExtC ?_ | refine EW.eExtA ?_); refine EW.eAssign ?_; refine EW.eAssign ?_; refine EW.eEnd ?_; (try refine EW.nm ?_))
  all_goals try ((first | refine EW.eRegL (id := 3) ?_ | refine EW.eReg (id := 3) ?_); refine EW.eLoadA (k := 4) ?_; refine EW.eLoadA (k := 4) ?_; refine EW.eLoadA (k := 4) ?_; (first | refine EW.eCallN [] Try.call12 (hCC) ?_ | refine EW.eCallN [] Try.call12 (hDD) ?_); refine EW.eMove ?_; (first | refine EW.eExtC ?_ | refine EW.eExtA ?_); (first | refine EW.eExtC ?_ | refine EW.eExtA ?_); refine EW.eAssign ?_; refine EW.eAssign ?_; refine EW.eEnd ?_; (try refine EW.nm ?_))
  all_goals try ((first | refine EW.eRegL (id := 4) ?_ | refine EW.eReg (id := 4) ?_); refine EW.eMove ?_; refine EW.eEql ?_; refine EW.eMove ?_; refine EW.eEql ?_; refine EW.eNeqB ?_; refine EW.eMove ?_)
  all_goals try (refine EW.eGuard (j := 5) (o := ⟨some 36, _, _, _, _, _⟩) ?_ ?_ <;> (intro hb hb'; (try dsimp only at hb'); (try (exfalso; first | omega | with_reducible exact absurd rfl hb'))))
  all_goals try ((first | refine EW.eSkipF (j := 5) ?_ | refine EW.eSkipU (j := 5) ?_ | refine EW.eMove ?_); (first | refine EW.eSkipF (j := 5) ?_ | refine EW.eSkipU (j := 5) ?_ | refine EW.eLenS ?_ | refine EW.eLenG ?_ | refine EW.eLenN ?_); (first | refine EW.eSkipF (j := 5) ?_ | refine EW.eSkipU (j := 5) ?_ | refine EW.eMove ?_); (first | refine EW.eSkipF (j := 5) ?_ | refine EW.eSkipU (j := 5) ?_ | refine EW.eLenS ?_ | refine EW.eLenG ?_ | refine EW.eLenN ?_); (first | refine EW.eSkipF (j := 5) ?_ | refine EW.eSkipU (j := 5) ?_ | refine EW.eNeq ?_); (first | refine EW.ePickT ?_ | refine EW.ePickF ?_); refine EW.eEnd ?_; (try refine EW.nm ?_))
  all_goals try (first | refine EW.eYes (x := Operand.tmp 41) ?_ | refine EW.eNo (x := Operand.tmp 41) ?_ | (refine EW.eCond (x := Operand.tmp 41) ?_ ?_ <;> (intro hb hb'; (try dsimp only at hb'); (try (exfalso; first | omega | with_reducible exact absurd rfl hb')))))
  all_goals try (refine EW.nm ?_)
  all_goals try ((first | refine EW.eRegL (id := 5) ?_ | refine EW.eReg (id := 5) ?_); refine EW.eAssign ?_; refine EW.eEnd ?_; (try refine EW.nm ?_))
  all_goals try ((first | refine EW.eRegL (id := 6) ?_ | refine EW.eReg (id := 6) ?_); refine EW.eAssign ?_; refine EW.eEnd ?_; (try refine EW.nm ?_))
  all_goals try (refine EW.eUnroll 1 ?_)
  all_goals try (refine EW.nm ?_)
  iterate 1 (
    all_goals try ((first | refine EW.eRegL (id := 7) ?_ | refine EW.eReg (id := 7) ?_); refine EW.eMove ?_; refine EW.eMove ?_; (first | refine EW.eLenS ?_ | refine EW.eLenG ?_ | refine EW.eLenN ?_); refine EW.eLss ?_; refine EW.eEnd ?_; (try refine EW.nm ?_))
    all_goals try (first | refine EW.eYes (x := Operand.tmp 45) ?_ | refine EW.eNo (x := Operand.tmp 45) ?_ | (refine EW.eCond (x := Operand.tmp 45) ?_ ?_ <;> (intro hb hb'; (try dsimp only at hb'); (try (exfalso; first | omega | with_reducible exact absurd rfl hb')))))
    all_goals try (refine EW.nm ?_)
    all_goals try ((first | refine EW.eRegL (id := 9) ?_ | refine EW.eReg (id := 9) ?_); refine EW.eAssign ?_; refine EW.eEnd ?_; (try refine EW.nm ?_))
    all_goals try ((first | refine EW.eRegL (id := 10) ?_ | refine EW.eReg (id := 10) ?_); refine EW.eMove ?_; (first | refine EW.eLenS ?_ | refine EW.eLenG ?_ | refine EW.eLenN ?_); refine EW.eMove ?_; refine EW.eEnd ?_; (try refine EW.nm ?_))
    all_goals try (refine EW.eUnroll 1 ?_)
    all_goals try (refine EW.nm ?_)
    iterate 1 (
      all_goals try ((first | refine EW.eRegL (id := 11) ?_ | refine EW.eReg (id := 11) ?_); refine EW.eLss ?_; refine EW.eEnd ?_; (try refine EW.nm ?_))
      all_goals try (first | refine EW.eYes (x := Operand.tmp 51) ?_ | refine EW.eNo (x := Operand.tmp 51) ?_ | (refine EW.eCond (x := Operand.tmp 51) ?_ ?_ <;> (intro hb hb'; (try dsimp only at hb'); (try (exfalso; first | omega | with_reducible exact absurd rfl hb')))))
      all_goals try (refine EW.nm ?_)
      all_goals try ((first | refine EW.eRegL (id := 12) ?_ | refine EW.eReg (id := 12) ?_); refine EW.eMove ?_; refine EW.eAssign ?_; refine EW.eEnd ?_; (try refine EW.nm ?_))
      all_goals try ((first | refine EW.eRegL (id := 13) ?_ | refine EW.eReg (id := 13) ?_); refine EW.eMove ?_; refine EW.eMove ?_)
      all_goals try (refine EW.eGuard (j := 1) (o := ⟨some 55, _, _, _, _, _⟩) ?_ ?_ <;> (intro hb hb'; (try dsimp only at hb'); (try (exfalso; first | omega | with_reducible exact absurd rfl hb'))))
      all_goals try ((first | refine EW.eSkipT (j := 1) ?_ | refine EW.eSkipU (j := 1) ?_ | refine EW.eMove ?_); (first | refine EW.eSkipT (j := 1) ?_ | refine EW.eSkipU (j := 1) ?_ | refine EW.eMove ?_); (first | refine EW.eSkipT (j := 1) ?_ | refine EW.eSkipU (j := 1) ?_ | refine EW.eIndexAddrS (z := 4) ?_ | refine EW.eIndexAddrG (z := 4) ?_); (first | refine EW.eSkipT (j := 1) ?_ | refine EW.eSkipU (j := 1) ?_ | refine EW.eLoadA (k := 4) ?_); (first | refine EW.eSkipT (j := 1) ?_ | refine EW.eSkipU (j := 1) ?_ | refine EW.eMove ?_); (first | refine EW.eSkipT (j := 1) ?_ | refine EW.eSkipU (j := 1) ?_ | refine EW.eMove ?_); (first | refine EW.eSkipT (j := 1) ?_ | refine EW.eSkipU (j := 1) ?_ | refine EW.eMove ?_); (first | refine EW.eSkipT (j := 1) ?_ | refine EW.eSkipU (j := 1) ?_ | refine EW.eAdd ?_); (first | refine EW.eSkipT (j := 1) ?_ | refine EW.eSkipU (j := 1) ?_ | refine EW.eMove ?_); (first | refine EW.eSkipT (j := 1) ?_ | refine EW.eSkipU (j := 1) ?_ | refine EW.eLenS ?_ | refine EW.eLenG ?_ | refine EW.eLenN ?_); (first | refine EW.eSkipT (j := 1) ?_ | refine EW.eSkipU (j := 1) ?_ | refine EW.eRem ?_); (first | refine EW.eSkipT (j := 1) ?_ | refine EW.eSkipU (j := 1) ?_ | refine EW.eIndexAddrS (z := 4) ?_ | refine EW.eIndexAddrG (z := 4) ?_); (first | refine EW.eSkipT (j := 1) ?_ | refine EW.eSkipU (j := 1) ?_ | refine EW.eLoadA (k := 4) ?_); (first | refine EW.eSkipT (j := 1) ?_ | refine EW.eSkipU (j := 1) ?_ | refine EW.eEqlA ?_); (first | refine EW.ePickT ?_ | refine EW.ePickF ?_); refine EW.eAssign ?_; refine EW.eDraw ?_; (try refine EW.nm ?_))
      all_goals try ((first | refine EW.eRegL (id := 14) ?_ | refine EW.eReg (id := 14) ?_); refine EW.eAdd ?_; refine EW.eMove ?_; refine EW.eEnd ?_; (try refine EW.nm ?_)))
    all_goals try ((first | refine EW.eRegL (id := 15) ?_ | refine EW.eReg (id := 15) ?_); refine EW.eMove ?_; refine EW.eEnd ?_; (try refine EW.nm ?_))
    all_goals try (first | refine EW.eYes (x := Operand.tmp 71) ?_ | refine EW.eNo (x := Operand.tmp 71) ?_ | (refine EW.eCond (x := Operand.tmp 71) ?_ ?_ <;> (intro hb hb'; (try dsimp only at hb'); (try (exfalso; first | omega | with_reducible exact absurd rfl hb')))))
    all_goals try (refine EW.nm ?_)
    all_goals try ((first | refine EW.eRegL (id := 16) ?_ | refine EW.eReg (id := 16) ?_); refine EW.eMove ?_; refine EW.eAssign ?_; refine EW.eEnd ?_; (try refine EW.nm ?_))
    all_goals try ((first | refine EW.eRegL (id := 8) ?_ | refine EW.eReg (id := 8) ?_); refine EW.eMove ?_; refine EW.eAdd ?_; refine EW.eAssign ?_; refine EW.eEnd ?_; (try refine EW.nm ?_)))
  all_goals try ((first | refine EW.eRegL (id := 17) ?_ | refine EW.eReg (id := 17) ?_); refine EW.eMove ?_; refine EW.eMove ?_)
  all_goals try (refine EW.eGuard (j := 1) (o := ⟨some 75, _, _, _, _, _⟩) ?_ ?_ <;> (intro hb hb'; (try dsimp only at hb'); (try (exfalso; first | omega | with_reducible exact absurd rfl hb'))))
  all_goals try ((first | refine EW.eSkipT (j := 1) ?_ | refine EW.eSkipU (j := 1) ?_ | refine EW.eMove ?_); (first | refine EW.eSkipT (j := 1) ?_ | refine EW.eSkipU (j := 1) ?_ | refine EW.eLenS ?_ | refine EW.eLenG ?_ | refine EW.eLenN ?_); (first | refine EW.eSkipT (j := 1) ?_ | refine EW.eSkipU (j := 1) ?_ | refine EW.eEql ?_); (first | refine EW.ePickT ?_ | refine EW.ePickF ?_); refine EW.eAssign ?_; refine EW.eEnd ?_; (try refine EW.nm ?_))
  all_goals (refine EW.eLeaveP ?_; intro w' hW; refine ⟨?_, hW⟩)
  all_goals rfl
theorem round (w : World) (a0 a1 a2 a3 b0 b1 b2 b3 c0 c1 c2 c3 : Int) : Calls Try.prog 7 #[V4 a0 a1 a2 a3, V4 b0 b1 b2 b3, V4 c0 c1 c2 c3] w fun e w' => e = .returned (.bool true) ∧ Below w.heap.size w w' := by
  rcases sm_or (L3 a0 a1 a2 a3 b0 b1 b2 b3 c0 c1 c2 c3) with hs | ⟨t, h1, h2, h3⟩
  · have ha := hs ⟨a0, a1, a2, a3⟩ (by simp)
    have hB := hs ⟨b0, b1, b2, b3⟩ (by simp)
    have hC := hs ⟨c0, c1, c2, c3⟩ (by simp)
    have hR := (tri_rot ⟨a0, a1, a2, a3⟩ ⟨b0, b1, b2, b3⟩ ⟨c0, c1, c2, c3⟩ 7).at_
    have hn := clipK_42 (l := L3 a0 a1 a2 a3 b0 b1 b2 b3 c0 c1 c2 c3) rfl 7 (by omega)
    refine round_walk a0 a1 a2 a3 b0 b1 b2 b3 c0 c1 c2 c3 _ _ w hn hR.1 (Clip_ok ⟨a0, a1, a2, a3⟩ ⟨b0, b1, b2, b3⟩ ⟨c0, c1, c2, c3⟩ ha hB hC) (Clip_ok ⟨b0, b1, b2, b3⟩ ⟨c0, c1, c2, c3⟩ ⟨a0, a1, a2, a3⟩ hB hC ha) (fun h => ?_)
    rcases Nat.eq_zero_or_pos (clipK (L3 a0 a1 a2 a3 b0 b1 b2 b3 c0 c1 c2 c3) 7).length with h0 | h0
    · exact h0
    · obtain ⟨k, hk, h4⟩ := hR.2 h0
      have := h k hk
      rw [eqK_all h4] at this; cases this
  · rcases sm_or (L3 b0 b1 b2 b3 c0 c1 c2 c3 a0 a1 a2 a3) with hs' | ⟨t', h1', h2', h3'⟩
    · exfalso
      have ha := hs' ⟨a0, a1, a2, a3⟩ (by simp)
      have hB := hs' ⟨b0, b1, b2, b3⟩ (by simp)
      have hC := hs' ⟨c0, c1, c2, c3⟩ (by simp)
      have : t = 0 ∨ t = 1 ∨ t = 2 := by
        have : t < 3 := h1
        omega
      rcases this with rfl | rfl | rfl
      · exact h3 ha
      · exact h3 hB
      · exact h3 hC
    · exact round_no ⟨a0, a1, a2, a3⟩ ⟨b0, b1, b2, b3⟩ ⟨c0, c1, c2, c3⟩ t t' h1 h2 h3 h1' h2' h3' w
end Go.Proofs.Ytleelfdpefmnnaa
