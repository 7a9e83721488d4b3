/- rle: lost, bright; pack.Many of pixels. -/
import Derived.Test.YtnmkpekfkfckoaaHRlS
import Derived.Test.YtnmkpekfkfckoaaHRlR
import Derived.Test.YtnmkpekfkfckoaaHPyP
namespace Go.Proofs.Ytnmkpekfkfckoaa
set_option linter.unusedSimpArgs false
set_option linter.unusedVariables false
open Go.RowKit EV
open SX (Wr Tv Qu Rm Sh Is conjP eqs_iff eqs_false)
open EW (PlL PlT PlV PlVs LfV Mm Bt Opn GV YT lpOf nums)
set_option maxRecDepth 20000
theorem srcN_0 {c : Ctx} {σ : Sf} {x : Operand} {q : Nat} (hx : opv σ x = some (.c (.s q 0 1 1))) (ha : σ (.l q) = some (.l true)) (hB : σ (.b q) = some (.b (.m true [.v (.int .u32 16777216), .v (.int .i64 0), .v (.int .i64 0), .v (.int .u32 0)]))) : SrcN c σ x 1 0 4 [] (.l q :: .b q :: opk x) :=
  srcN_named (c := c) (n := 0) (z := 4) hx (.inl ⟨_, rfl⟩) ha hB rfl (Nat.zero_le _) (Nat.zero_le _)
theorem repeat_0 : CT Try.prog 73 [.c (.s 0 0 1 1), .c (.v (.int .i64 0))] (upd EW.emp WE1) 1 2 (.c (.g 1 0 0 0 4)) (upd (upd EW.emp WE1) [(.l 1, .l true), (.b 1, .b (.w true (pvs [])))]) := by
  have hM := fun u => mul_1 0 u (by omega)
  refine EW.ctEnter EW.sup1 Try.func73 rfl Try.ntmps73 rfl EW.nlP ?_; intro w0 tch ini R hR
  all_goals try (refine EW.nm ?_)
  all_goals try (refine EW.eReg (id := 0) ?_; refine EW.eAssign ?_; refine EW.eEnd ?_; (try refine EW.nm ?_))
  all_goals try (refine EW.eReg (id := 1) ?_; refine EW.eMove ?_; refine EW.eLss ?_; refine EW.eEnd ?_; (try refine EW.nm ?_))
  all_goals try (first | refine EW.eYes (x := .tmp 10) ?_ | refine EW.eNo (x := .tmp 10) ?_ | (refine EW.eCond (x := .tmp 10) ?_ ?_ <;> (intro hb hb'; (try dsimp only at hb'); (try (exfalso; first | omega | with_reducible exact absurd rfl hb')))))
  all_goals try (refine EW.nm ?_)
  all_goals try (refine EW.eReg (id := 2) ?_; fail "op makeInterface"; fail "op panic"; refine EW.eEnd ?_; (try refine EW.nm ?_))
  all_goals try (refine EW.eReg (id := 3) ?_; refine EW.eMove ?_; (first | refine EW.eLenS ?_ | refine EW.eLenG ?_ | refine EW.eLenN ?_); refine EW.eConv ?_; refine EW.eMove ?_; refine EW.eConv ?_; refine EW.eCall Try.call90 (fun w => hM w) ?_; refine EW.eMove ?_; (first | refine EW.eExtC ?_ | refine EW.eExtA ?_); (first | refine EW.eExtC ?_ | refine EW.eExtA ?_); refine EW.eAssign ?_; refine EW.eAssign ?_; refine EW.eEnd ?_; (try refine EW.nm ?_))
  all_goals try (refine EW.eReg (id := 4) ?_; refine EW.eMove ?_; refine EW.eGtr ?_; refine EW.eMove ?_)
  all_goals try (refine EW.eGuard (j := 2) (o := ⟨some 24, _, _, _, _, _⟩) ?_ ?_ <;> (intro hb hb'; (try dsimp only at hb'); (try (exfalso; first | omega | with_reducible exact absurd rfl hb'))))
  all_goals try ((first | refine EW.eSkipF (j := 2) ?_ | refine EW.eSkipU (j := 2) ?_ | refine EW.eMove ?_); (first | refine EW.eSkipF (j := 2) ?_ | refine EW.eSkipU (j := 2) ?_ | refine EW.eGtr ?_); (first | refine EW.ePickT ?_ | refine EW.ePickF ?_); refine EW.eEnd ?_; (try refine EW.nm ?_))
  all_goals try (first | refine EW.eYes (x := .tmp 26) ?_ | refine EW.eNo (x := .tmp 26) ?_ | (refine EW.eCond (x := .tmp 26) ?_ ?_ <;> (intro hb hb'; (try dsimp only at hb'); (try (exfalso; first | omega | with_reducible exact absurd rfl hb')))))
  all_goals try (refine EW.nm ?_)
  all_goals try (refine EW.eReg (id := 5) ?_; fail "op makeInterface"; fail "op panic"; refine EW.eEnd ?_; (try refine EW.nm ?_))
  all_goals try (refine EW.eReg (id := 6) ?_; refine EW.eMove ?_; refine EW.eConv ?_; refine EW.eMakeSlice (len := 0) (cap := 0) (by' := 32) (Z := pvs []) ?_ (e3 := ⟨rfl⟩); refine EW.eAssign ?_; refine EW.eEnd ?_; (try refine EW.nm ?_))
  all_goals try (refine EW.eReg (id := 7) ?_; refine EW.eMove ?_; refine EW.eMove ?_; refine EW.eCopyS (z := 4) (n := 0) (vs := []) (l' := []) ?_ (hs := srcN_0 (by rfl) (by rfl) (by rfl)) (hn := rfl) (hvl := rfl) (hle := Nat.zero_le _) (e2 := ⟨rfl⟩); refine EW.eAssign ?_; refine EW.eEnd ?_; (try refine EW.nm ?_))
  all_goals (refine EW.eToW 10 true (pvs []) ?_)
  all_goals first | (fail_if_success (refine EW.eUnroll 1 ?_)) | (refine EW.eLoopD [8, 34, 35, 36, 37, 38, 39, 40, 41, 42, 43, 44, 45, 46] 11 (fun j : {x : Nat // x = 0} => [(.t 8, .v (.c (.v (.int .i64 j.1))))]) (fun j => j.1) (⟨0, rfl⟩) (by ((repeat (first | exact EW.subW.nil | refine EW.subW.cons rfl ?_ | refine EW.subW.conv rfl ?_)); (first | done | fail))) ?_; rintro hcl8 ⟨k, hk⟩; (try dsimp only))
  all_goals try (refine EW.nm ?_)
  all_goals try (refine EW.eReg (id := 8) ?_; refine EW.eMove ?_; refine EW.eMove ?_; (first | refine EW.eLenS ?_ | refine EW.eLenG ?_ | refine EW.eLenN ?_); refine EW.eLss ?_; refine EW.eEnd ?_; (try refine EW.nm ?_))
  all_goals try (first | refine EW.eYes (x := .tmp 37) ?_ | refine EW.eNo (x := .tmp 37) ?_ | (refine EW.eCond (x := .tmp 37) ?_ ?_ <;> (intro hb hb'; (try dsimp only at hb'); (try (exfalso; first | omega | with_reducible exact absurd rfl hb')))))
  all_goals try (refine EW.nm ?_)
  all_goals try (refine EW.eReg (id := 9) ?_; refine EW.eMove ?_; refine EW.eMove ?_; refine EW.eMove ?_; (first | refine EW.eSliceS (z := 4) ?_ | refine EW.eSliceG (z := 4) ?_ | refine EW.eSliceN (z := 4) ?_); refine EW.eMove ?_; refine EW.eMove ?_; (first | refine EW.eSliceS (z := 4) ?_ | refine EW.eSliceG (z := 4) ?_ | refine EW.eSliceN (z := 4) ?_); (first | refine EW.eCopyS (z := 4) ?_ | refine EW.eCopyG (z := 4) ?_); refine EW.eAdd ?_; refine EW.eAssign ?_; refine EW.eDraw ?_; (try refine EW.nm ?_))
  all_goals first | (fail_if_success (with_reducible refine EW.isLater ?_)) | (refine EW.eLaterD (⟨k, hk⟩) (by dsimp only; omega) (by ((repeat (first | exact EW.subW.nil | refine EW.subW.cons rfl ?_ | refine EW.subW.conv rfl ?_)); (first | done | fail))) hcl8)
  all_goals try (refine EW.nm ?_)
  all_goals try (refine EW.eReg (id := 10) ?_; refine EW.eMove ?_; refine EW.eAssign ?_; refine EW.eEnd ?_; (try refine EW.nm ?_))
  all_goals (try (refine EW.eToGK 4 10 4 ?_))
  all_goals try (with_reducible refine EW.parkK ?_)
  all_goals try (refine EW.Park.mk ?_)
  all_goals (refine EW.eLeaveN [10] hR EW.orP (by rfl) (by rfl) ?_ ?_ rfl rfl EW.nlP rfl rfl; rotate_left 1; (· ((repeat (first | exact EW.atE.nil | refine EW.atE.lt rfl ?_ | refine EW.atE.lf ?_ | refine EW.atE.b rfl EW.SameB.refl ?_ | (refine EW.atE.b rfl ?_ ?_; rotate_left 1))))))
  all_goals rfl
theorem repeat_any (n : Nat) (h2 : n ≤ 4096) : CT Try.prog 73 [.c (.s 0 0 1 1), .c (.v (.int .i64 (n : Int)))] (upd EW.emp WE1) 1 2 (.c (.g 1 0 n n 4)) (upd (upd EW.emp WE1) [(.l 1, .l true), (.b 1, .b (.w true (pvs (List.replicate n pE))))]) := by
  rcases Nat.eq_zero_or_pos n with rfl | h
  · exact repeat_0
  · exact repeat_ct n h h2
/-- The reader at a place. -/
noncomputable abbrev WQr (bs : List Int) (p : Nat) (f : Bool) : Ws := WR bs p (bs.length - p) f
abbrev RC (bs : List Int) (p : Nat) (f : Bool) : Ws := [(.b 0, .b (.m true (rcs p (bs.length - p) f)))]
theorem rlost (bs : List Int) (p : Nat) (f : Bool) : CT Try.prog 71 [.c (.p 0 0)] (upd EW.emp (WQr bs p f)) 2 2 (.c (.v (.bool f))) (upd (upd EW.emp (WQr bs p f)) []) := by
  cases f with
  | true =>
    have hL := rleftT bs p (bs.length - p)
    have hE := rendT bs p (bs.length - p)
    refine EW.ctEnter EW.sup1 Try.func71 rfl Try.ntmps71 rfl EW.nlP ?_; intro w0 tch ini R hR
    all_goals try (refine EW.nm ?_)
    all_goals try (refine EW.eReg (id := 0) ?_; refine EW.eAssign ?_; refine EW.eEnd ?_; (try refine EW.nm ?_))
    all_goals try (refine EW.eReg (id := 1) ?_; refine EW.eMove ?_; refine EW.eCallN [0, 1] Try.call89 (hL) ?_; refine EW.eEql ?_; refine EW.eMove ?_)
    all_goals try (refine EW.eGuard (j := 3) (o := ⟨some 7, _, _, _, _, _⟩) ?_ ?_ <;> (intro hb hb'; (try dsimp only at hb'); (try (exfalso; first | omega | with_reducible exact absurd rfl hb'))))
    all_goals try ((first | refine EW.eSkipT (j := 3) ?_ | refine EW.eSkipU (j := 3) ?_ | refine EW.eMove ?_); (first | refine EW.eSkipT (j := 3) ?_ | refine EW.eSkipU (j := 3) ?_ | refine EW.eCallN [0, 1] Try.call45 (hE) ?_); (first | refine EW.eSkipT (j := 3) ?_ | refine EW.eSkipU (j := 3) ?_ | refine EW.eNeq ?_); (first | refine EW.ePickT ?_ | refine EW.ePickF ?_); refine EW.eAssign ?_; refine EW.eEnd ?_; (try refine EW.nm ?_))
    all_goals try (with_reducible refine EW.parkK ?_)
    all_goals try (refine EW.Park.mk ?_)
    all_goals (refine EW.eLeaveN [] hR EW.orP (by rfl) (by rfl) ?_ ?_ rfl rfl EW.nlP rfl rfl; rotate_left 1; (· ((repeat (first | exact EW.atE.nil | refine EW.atE.lt rfl ?_ | refine EW.atE.lf ?_ | refine EW.atE.b rfl EW.SameB.refl ?_ | (refine EW.atE.b rfl ?_ ?_; rotate_left 1))))))
    all_goals rfl
  | false =>
    have hL := rleftF bs p (bs.length - p)
    have hE := rendF bs p (bs.length - p)
    refine EW.ctEnter EW.sup1 Try.func71 rfl Try.ntmps71 rfl EW.nlP ?_; intro w0 tch ini R hR
    all_goals try (refine EW.nm ?_)
    all_goals try (refine EW.eReg (id := 0) ?_; refine EW.eAssign ?_; refine EW.eEnd ?_; (try refine EW.nm ?_))
    all_goals (rcases Nat.eq_zero_or_pos (bs.length - p) with h0 | h0; (have hE2 := hE h0); rotate_left; rotate_left)
    all_goals try (refine EW.eReg (id := 1) ?_; refine EW.eMove ?_; refine EW.eCallN [0, 1] Try.call89 (hL) ?_; refine EW.eEql ?_; refine EW.eMove ?_)
    all_goals try (refine EW.eGuard (j := 3) (o := ⟨some 7, _, _, _, _, _⟩) ?_ ?_ <;> (intro hb hb'; (try dsimp only at hb'); (try (exfalso; first | omega | with_reducible exact absurd rfl hb'))))
    all_goals try ((first | refine EW.eSkipT (j := 3) ?_ | refine EW.eSkipU (j := 3) ?_ | refine EW.eMove ?_); (first | refine EW.eSkipT (j := 3) ?_ | refine EW.eSkipU (j := 3) ?_ | refine EW.eCallN [0, 1] Try.call45 (hE2) ?_); (first | refine EW.eSkipT (j := 3) ?_ | refine EW.eSkipU (j := 3) ?_ | refine EW.eNeq ?_); (first | refine EW.ePickT ?_ | refine EW.ePickF ?_); refine EW.eAssign ?_; refine EW.eEnd ?_; (try refine EW.nm ?_))
    all_goals try (with_reducible refine EW.parkK ?_)
    all_goals try (refine EW.Park.mk ?_)
    all_goals (refine EW.eLeaveN [] hR EW.orP (by rfl) (by rfl) ?_ ?_ rfl rfl EW.nlP rfl rfl; rotate_left 1; (· ((repeat (first | exact EW.atE.nil | refine EW.atE.lt rfl ?_ | refine EW.atE.lf ?_ | refine EW.atE.b rfl EW.SameB.refl ?_ | (refine EW.atE.b rfl ?_ ?_; rotate_left 1))))))
    all_goals rfl
theorem bright_any (bs : List Int) (p q : Nat) (f : Bool) (x : Px) (hT : CT Try.prog 92 [.c (.p 0 0)] (upd EW.emp (WQr bs p false)) 2 2 (.a (pcl x.z x.o x.t x.c)) (upd (upd EW.emp (WQr bs p false)) (RC bs q f))) (hx : ¬ x.emp) : CT Try.prog 75 [.c (.p 0 0)] (upd EW.emp (WQr bs p false)) 2 2 (.a (pcl x.z x.o x.t x.c)) (upd (upd EW.emp (WQr bs p false)) (RC bs q f)) := by
  have hc := empC_n x hx
  clear hx
  obtain ⟨z, o, t, c⟩ := x
  refine EW.ctEnter EW.sup1 Try.func75 rfl Try.ntmps75 rfl EW.nlP ?_; intro w0 tch ini R hR
  all_goals try (refine EW.nm ?_)
  all_goals try (refine EW.eReg (id := 0) ?_; refine EW.eAlloc ?_; refine EW.eEnd ?_; (try refine EW.nm ?_))
  all_goals try (refine EW.eReg (id := 1) ?_; refine EW.eMove ?_; refine EW.eCallN [0, 1] Try.call92 (hT) ?_; refine EW.eAlloc ?_; (first | refine EW.eStoreW (k := 4) ?_ | refine EW.eStore (k := 4) ?_); refine EW.eEnd ?_; (try refine EW.nm ?_))
  all_goals try (refine EW.eReg (id := 2) ?_; refine EW.eLoadA (k := 4) ?_; refine EW.eCall Try.call61 (fun w => hc w) ?_; refine EW.eEnd ?_; (try refine EW.nm ?_))
  all_goals try (first | refine EW.eYes (x := .tmp 7) ?_ | refine EW.eNo (x := .tmp 7) ?_ | (refine EW.eCond (x := .tmp 7) ?_ ?_ <;> (intro hb hb'; (try dsimp only at hb'); (try (exfalso; first | omega | with_reducible exact absurd rfl hb')))))
  all_goals try (refine EW.nm ?_)
  all_goals try (refine EW.eReg (id := 3) ?_; refine EW.eMove ?_; fail "no contract of (*mullion/pack.Reader).Spoil"; refine EW.eEnd ?_; (try refine EW.nm ?_))
  all_goals try (refine EW.eReg (id := 4) ?_; refine EW.eLoadA (k := 4) ?_; (first | refine EW.eStoreW (k := 4) ?_ | refine EW.eStore (k := 4) ?_); refine EW.eEnd ?_; (try refine EW.nm ?_))
  all_goals try (with_reducible refine EW.parkK ?_)
  all_goals try (refine EW.Park.mk ?_)
  all_goals (refine EW.eLeaveN [] hR EW.orP (by rfl) (by rfl) ?_ ?_ rfl rfl EW.nlP rfl rfl; rotate_left 1; (· ((repeat (first | exact EW.atE.nil | refine EW.atE.lt rfl ?_ | refine EW.atE.lf ?_ | refine EW.atE.b rfl EW.SameB.refl ?_ | (refine EW.atE.b rfl ?_ ?_; rotate_left 1))))))
  all_goals rfl
theorem bright_e (bs : List Int) (p q : Nat) (x : Px) (hT : CT Try.prog 92 [.c (.p 0 0)] (upd EW.emp (WQr bs p false)) 2 2 (.a (pcl x.z x.o x.t x.c)) (upd (upd EW.emp (WQr bs p false)) (RC bs q false))) (hx : x.emp) : CT Try.prog 75 [.c (.p 0 0)] (upd EW.emp (WQr bs p false)) 2 2 (.a (pcl x.z x.o x.t x.c)) (upd (upd EW.emp (WQr bs p false)) (RC bs q true)) := by
  have hc := empC_y x hx
  have hS := rspoil bs q (bs.length - q) false
  clear hx
  obtain ⟨z, o, t, c⟩ := x
  refine EW.ctEnter EW.sup1 Try.func75 rfl Try.ntmps75 rfl EW.nlP ?_; intro w0 tch ini R hR
  all_goals try (refine EW.nm ?_)
  all_goals try (refine EW.eReg (id := 0) ?_; refine EW.eAlloc ?_; refine EW.eEnd ?_; (try refine EW.nm ?_))
  all_goals try (refine EW.eReg (id := 1) ?_; refine EW.eMove ?_; refine EW.eCallN [0, 1] Try.call92 (hT) ?_; refine EW.eAlloc ?_; (first | refine EW.eStoreW (k := 4) ?_ | refine EW.eStore (k := 4) ?_); refine EW.eEnd ?_; (try refine EW.nm ?_))
  all_goals try (refine EW.eReg (id := 2) ?_; refine EW.eLoadA (k := 4) ?_; refine EW.eCall Try.call61 (fun w => hc w) ?_; refine EW.eEnd ?_; (try refine EW.nm ?_))
  all_goals try (first | refine EW.eYes (x := .tmp 7) ?_ | refine EW.eNo (x := .tmp 7) ?_ | (refine EW.eCond (x := .tmp 7) ?_ ?_ <;> (intro hb hb'; (try dsimp only at hb'); (try (exfalso; first | omega | with_reducible exact absurd rfl hb')))))
  all_goals try (refine EW.nm ?_)
  all_goals try (refine EW.eReg (id := 3) ?_; refine EW.eMove ?_; refine EW.eCallN [0, 1] Try.call72 (hS) ?_; refine EW.eEnd ?_; (try refine EW.nm ?_))
  all_goals try (refine EW.eReg (id := 4) ?_; refine EW.eLoadA (k := 4) ?_; (first | refine EW.eStoreW (k := 4) ?_ | refine EW.eStore (k := 4) ?_); refine EW.eEnd ?_; (try refine EW.nm ?_))
  all_goals try (with_reducible refine EW.parkK ?_)
  all_goals try (refine EW.Park.mk ?_)
  all_goals (refine EW.eLeaveN [] hR EW.orP (by rfl) (by rfl) ?_ ?_ rfl rfl EW.nlP rfl rfl; rotate_left 1; (· ((repeat (first | exact EW.atE.nil | refine EW.atE.lt rfl ?_ | refine EW.atE.lf ?_ | refine EW.atE.b rfl EW.SameB.refl ?_ | (refine EW.atE.b rfl ?_ ?_; rotate_left 1))))))
  all_goals rfl
/-- A pixel that is no bright one. -/
def BrF (bs : List Int) (p q : Nat) : Prop := q ≤ bs.length ∧ ∃ x : Px, CT Try.prog 75 [.c (.p 0 0)] (upd EW.emp (WQr bs p false)) 2 2 (.a (pcl x.z x.o x.t x.c)) (upd (upd EW.emp (WQr bs p false)) (RC bs q true))
/-- A pixel that is one. -/
structure BrY (bs : List Int) (p : Nat) (x : Px) (k : Nat) : Prop where
  h : takeP (bs.drop p) = some (x, k)
  e : ¬ x.emp
  k0 : 0 < k
  k1 : p + k ≤ bs.length
  may : x.may
  wf : x.wf
  ct : CT Try.prog 75 [.c (.p 0 0)] (upd EW.emp (WQr bs p false)) 2 2 (.a (pcl x.z x.o x.t x.c)) (upd (upd EW.emp (WQr bs p false)) (RC bs (p + k) false))
theorem bright_all (bs : List Int) (p : Nat) (hy : By bs) (hp : p ≤ bs.length) (hl : bs.length ≤ 1000000) : (∃ x k, BrY bs p x k) ∨ ∃ q, BrF bs p q := by
  cases h : takeP (bs.drop p) with
  | none =>
    obtain ⟨p', n', h1, hT⟩ := itake_no bs p (bs.length - p) hy (by omega) hl h
    obtain rfl : n' = bs.length - p' := by omega
    exact .inr ⟨p', by omega, _, bright_any bs p p' true ⟨0, 0, 0, 0⟩ hT (by decide)⟩
  | some r =>
    obtain ⟨x, k⟩ := r
    obtain ⟨k0, k1, hm, hw, hT⟩ := itake_ok bs p (bs.length - p) hy (by omega) hl x k h
    rw [show bs.length - p - k = bs.length - (p + k) by omega] at hT
    by_cases he : x.emp
    · exact .inr ⟨p + k, by omega, x, bright_e bs p (p + k) x hT he⟩
    · exact .inl ⟨x, k, h, he, k0, by omega, hm, hw, bright_any bs p (p + k) false x hT he⟩
/-- What Many comes to. -/
inductive Mny (bs : List Int) (c : Nat) : List Px → Nat → List Px → Nat → Bool → Prop
  | done {ps p} : ps.length = c → Mny bs c ps p ps p false
  | bad {ps p q} : ps.length < c → BrF bs p q → Mny bs c ps p [] q true
  | next {ps p x k r q f} : ps.length < c → BrY bs p x k → Mny bs c (ps ++ [x]) (p + k) r q f → Mny bs c ps p r q f
theorem Mny.inv {bs : List Int} {c p q : Nat} {ps r : List Px} {f : Bool} (h : Mny bs c ps p r q f) : (ps.length = c ∧ r = ps ∧ q = p ∧ f = false) ∨ (ps.length < c ∧ BrF bs p q ∧ r = [] ∧ f = true) ∨ (ps.length < c ∧ ∃ x k, BrY bs p x k ∧ Mny bs c (ps ++ [x]) (p + k) r q f) := by
  cases h with
  | done h => exact .inl ⟨h, rfl, rfl, rfl⟩
  | bad h h1 => exact .inr (.inl ⟨h, h1, rfl, rfl⟩)
  | next h h1 h2 => exact .inr (.inr ⟨h, _, _, h1, h2⟩)
theorem mny_ex (bs : List Int) (c : Nat) (hy : By bs) (hl : bs.length ≤ 1000000) : ∀ (n : Nat) (ps : List Px) (p : Nat), c - ps.length ≤ n → ps.length ≤ c → p ≤ bs.length → ∃ r q f, q ≤ bs.length ∧ Mny bs c ps p r q f
  | 0, ps, p, h, h1, hp => ⟨_, _, _, hp, .done (by omega)⟩
  | n + 1, ps, p, h, h1, hp => by
    by_cases hc : ps.length = c
    · exact ⟨_, _, _, hp, .done hc⟩
    · rcases bright_all bs p hy hp hl with ⟨x, k, hx⟩ | ⟨q, hq⟩
      · obtain ⟨r, q, f, hq, hM⟩ := mny_ex bs c hy hl n (ps ++ [x]) (p + k) (by rw [List.length_append, List.length_singleton]; omega) (by rw [List.length_append, List.length_singleton]; omega) hx.k1
        exact ⟨r, q, f, hq, .next (by omega) hx hM⟩
      · exact ⟨_, _, _, hq.1, .bad (by omega) hq⟩
end Go.Proofs.Ytnmkpekfkfckoaa
