import Derived.Test.YtnmkpekfkfckoaaHCrc
import Derived.Test.YtnmkpekfkfckoaaHCn0
import Derived.Test.YtnmkpekfkfckoaaHEwZ
import Derived.Test.YtnmkpekfkfckoaaHImJ
/- crc.More and slices.Clone, told to the reckoner. -/
namespace Go.Proofs.Ytnmkpekfkfckoaa
set_option linter.unusedSimpArgs false
set_option linter.unusedVariables false
open Go.RowKit EV
open EW (PlL PlT PlV PlVs nums plL plL_ok)
def u8l : List Value → Option (List Int)
  | [] => some []
  | .int .u8 x :: l => match u8l l with
    | some r => some (x :: r)
    | none => none
  | _ => none
theorem u8l_ok : ∀ {l : List Value} {bs : List Int}, u8l l = some bs → l = nums .u8 bs
  | [], bs, h => by simp only [u8l, Option.some.injEq] at h; subst h; rfl
  | .int .u8 x :: l, bs, h => by
    simp only [u8l] at h
    cases hl : u8l l with
    | none => rw [hl] at h; cases h
    | some r => rw [hl] at h; cases h; rw [u8l_ok hl]; rfl
/-- The bytes of a block. -/
def bsOf : B → Option (List Int)
  | .m true l => match plL l with
    | some L => u8l L
    | none => none
  | _ => none
def wsOf8 : B → Option (List Int)
  | .w true L => u8l L
  | _ => none
theorem bsOf_ok {b : B} {bs : List Int} (h : bsOf b = some bs) : b = .m true ((nums .u8 bs).map C.v) := by
  unfold bsOf at h
  split at h
  · split at h
    · rename_i L hL
      rw [u8l_ok h] at hL
      rw [(plL_ok hL).eq]
    · cases h
  · cases h
theorem wsOf8_ok {b : B} {bs : List Int} (h : wsOf8 b = some bs) : b = .w true (nums .u8 bs) := by
  unfold wsOf8 at h
  split at h
  · rw [u8l_ok h]
  · cases h
def moreR (x : Int) (bs : List Int) (p n : Nat) : V := .c (.v (.int .u32 (invV (crcV (invV x) ((bs.drop p).take n)))))
/-- What More answers, told of a block. -/
noncomputable def moreB (x : Int) (k p n : Nat) (h : Hp) (nx : Nat) : Option (V × Hp × Nat × List Nat) := match h.get k with
  | some (true, b) => match wsOf8 b with
    | some bs => bif Nat.ble (p + n) bs.length && Nat.ble bs.length 1000000 then some (moreR x bs p n, h, nx, []) else none
    | none => match bsOf b with
      | some bs => bif Nat.ble (p + n) bs.length && Nat.ble bs.length 1000000 then match applyH h nx [] (.chg k (.w true (nums .u8 bs))) with
        | some (h', nx', wl) => bif Nat.beq nx' nx then some (moreR x bs p n, h', nx', wl) else none
        | none => none else none
      | none => none
  | _ => none
theorem moreB_ok {x : Int} {k p n : Nat} {h h' : Hp} {nx nx' : Nat} {v : V} {wl : List Nat} (C0 : C) (C1 : C) (hC : EW.Cren (EW.rn [k] nx) C0 = C1)
    (hct : ∀ bs : List Int, p + n ≤ bs.length → bs.length ≤ 1000000 → CT Try.prog 83 [.c (.v (.int .u32 x)), .c C0] (upd EW.emp [(.l 0, .l true), (.b 0, .b (.w true (nums .u8 bs)))]) 1 1 (moreR x bs p n) (upd (upd EW.emp [(.l 0, .l true), (.b 0, .b (.w true (nums .u8 bs)))]) []))
    (hal : EW.argsLt 1 [.c (.v (.int .u32 x)), .c C0] = true)
    (hh : moreB x k p n h nx = some (v, h', nx', wl)) (hi : ∀ n, nx ≤ n → h.get n = none) :
    Ext h nx [] h' nx' wl ∧ ∃ t', CT Try.prog 83 [.c (.v (.int .u32 x)), .c C1] (lk .e h) nx nx' v (lk t' h') := by
  unfold moreB at hh
  split at hh
  · rename_i b hg
    have hk : k < nx := Nat.lt_of_not_le fun hle => by rw [hi k hle] at hg; cases hg
    split at hh
    · rename_i bs hb
      obtain rfl := wsOf8_ok hb
      cases hq : (Nat.ble (p + n) bs.length && Nat.ble bs.length 1000000) with
      | false => rw [hq, cond_false] at hh; cases hh
      | true =>
        rw [hq, cond_true] at hh
        cases hh
        simp only [Bool.and_eq_true, Nat.ble_eq] at hq
        refine ⟨.refl hi, .e, ?_⟩
        have := EW.CT.frame (s := lk .e h) (ns := [k]) (m := nx) (hct bs hq.1 hq.2) (fun i => rfl) rfl rfl rfl (by simp only [EW.rnOk, EW.inL, Nat.blt_eq, Bool.not_false, Bool.and_self, Bool.and_true]; exact hk) ⟨lk_l.2 ⟨_, hg⟩, lk_b.2 ⟨_, hg⟩, True.intro⟩ rfl hal
        rw [← hC]
        exact this
    · split at hh
      · rename_i bs hb
        obtain rfl := bsOf_ok hb
        cases hq : (Nat.ble (p + n) bs.length && Nat.ble bs.length 1000000) with
        | false => rw [hq, cond_false] at hh; cases hh
        | true =>
          rw [hq, cond_true] at hh
          split at hh
          · rename_i h2 nx2 wl2 ha
            cases hx : Nat.beq nx2 nx with
            | false => rw [hx, cond_false] at hh; cases hh
            | true =>
              rw [hx, cond_true] at hh
              cases hh
              obtain rfl := Nat.eq_of_beq_eq_true hx
              simp only [Bool.and_eq_true, Nat.ble_eq] at hq
              obtain ⟨e1, e2⟩ := applyH_ok (t := .e) ha hi
              refine ⟨e2, .e, ?_⟩
              rw [e1]
              have := EW.CT.frame (s := upd (lk .e h) [(.b k, .b (.w true (nums .u8 bs)))]) (ns := [k]) (m := nx') (hct bs hq.1 hq.2) (fun i => by rw [upd_cons_ne _ _ _ (by simp), upd_nil]; rfl) rfl rfl rfl (by simp only [EW.rnOk, EW.inL, Nat.blt_eq, Bool.not_false, Bool.and_self, Bool.and_true]; exact hk) ⟨by rw [upd_cons_ne _ _ _ (by simp), upd_nil]; exact lk_l.2 ⟨_, hg⟩, by show upd _ [(.b k, _)] (.b k) = _; rw [upd_cons]; simp; rfl, True.intro⟩ rfl hal
              rw [← hC]
              exact EW.CT.toW this (lk_b.2 ⟨_, hg⟩)
          · cases hh
      · cases hh
  · cases hh
noncomputable def crcZ (f : FuncId) (args : List V) (h : Hp) (nx : Nat) : Option (V × Hp × Nat × List Nat) := match args with
  | [.c (.v (.int .u32 x)), .c (.g k p n lb 1)] => bif Nat.beq f 83 then moreB x k p n h nx else none
  | [.c (.v (.int .u32 x)), .c (.s k p n lb)] => bif Nat.beq f 83 then moreB x k p n h nx else none
  | args => cloneZ f args h nx
theorem crcZ_ok : EW.SoundZ Try.prog crcZ := by
  intro f args h nx v h' nx' wl hz hi
  unfold crcZ at hz
  split at hz
  · rename_i x k p n lb
    cases hf : Nat.beq f 83 with
    | false => rw [hf, cond_false] at hz; cases hz
    | true =>
      rw [hf, cond_true] at hz
      obtain rfl := Nat.eq_of_beq_eq_true hf
      obtain ⟨g1, g2⟩ := moreB_ok (.g 0 p n lb 1) (.g k p n lb 1) rfl (fun bs h1 h2 => more_g x bs p n lb h1 h2) rfl hz hi
      exact ⟨g1, g2, Try.call83⟩
  · rename_i x k p n lb
    cases hf : Nat.beq f 83 with
    | false => rw [hf, cond_false] at hz; cases hz
    | true =>
      rw [hf, cond_true] at hz
      obtain rfl := Nat.eq_of_beq_eq_true hf
      obtain ⟨g1, g2⟩ := moreB_ok (.s 0 p n lb) (.s k p n lb) rfl (fun bs h1 h2 => more_s x bs p n lb h1 h2) rfl hz hi
      exact ⟨g1, g2, Try.call83⟩
  · exact cloneZ_ok _ _ _ _ _ _ _ _ hz hi
end Go.Proofs.Ytnmkpekfkfckoaa
/- mullionlaw16.alive, reckoned. -/
namespace Go.Proofs.Ytnmkpekfkfckoaa
set_option linter.unusedSimpArgs false
set_option linter.unusedVariables false
open Go.RowKit
set_option maxRecDepth 20000
theorem ralive (w : World) : Calls Try.prog 26 #[] w fun e w' => e = .returned (.bool true) ∧ Below w.heap.size w w' :=
  EW.calls_plainZ enters EV.noX_ok crcZ_ok (fuel := 3000) (vs := []) (us := []) .nil rfl (by kernel_rfl) w
end Go.Proofs.Ytnmkpekfkfckoaa
/- RleBack: the walk. -/
namespace Go.Proofs.Ytnmkpekfkfckoaa
set_option linter.unusedSimpArgs false
set_option linter.unusedVariables false
open Go.RowKit Go.ChangeShapes Go.WideShapes EV
open SX (Wr Tv Qu Rm Sh Is conjP eqs_iff eqs_false)
open EW (PlL PlT PlV PlVs LfV Mm Bt Opn GV YT lpOf nums)
set_option maxRecDepth 20000
/-- A span's bytes, or the error. -/
theorem enc_ex {l : List Px} (hl : l.length ≤ 10000) (hw : ∀ i, i < l.length → (l.getD i Px.zero).wf) : ∃ r e, By r ∧ r.length ≤ 300000 ∧ EncR 13 false l r e ∧ ((Gd l ∧ e = 0 ∧ r = sealL (rleB l)) ∨ (¬ spOk l ∧ e = 140 ∧ r = [])) := by
  by_cases h : spOk l
  · have hg : Gd l := ⟨h, hw⟩
    have := rleB_le hg
    have := hg.sp.1
    exact ⟨_, _, seal_by (rleB_by l), by rw [seal_len]; omega, ienc_y l hg, .inl ⟨hg, rfl, rfl⟩⟩
  · exact ⟨_, _, (fun x hx => by simp at hx), by simp, ienc_bad l hl h, .inr ⟨h, rfl, rfl⟩⟩
end Go.Proofs.Ytnmkpekfkfckoaa
/- The nearer ones of spans: plain laws. -/
namespace Go.Proofs.Ytnmkpekfkfckoaa
open Go.RowKit EV
set_option maxRecDepth 20000
theorem Px.near_comm (a b : Px) : a.near b = b.near a := by
  rw [Px.near_eq, Px.near_eq]
  by_cases h : b.ahead a
  · rw [if_pos h, if_neg (Px.ahead_asymm h)]
  · rw [if_neg h]
    by_cases h' : a.ahead b
    · rw [if_pos h']
    · rw [if_neg h']; exact (Px.ahead_total h' h)
theorem nearL_comm (a b : List Px) : nearL a b = nearL b a := by
  unfold nearL
  rw [List.zipWith_comm]
  congr 1
  funext x y
  exact Px.near_comm _ _
theorem Px.near_assoc (a b c : Px) : (a.near b).near c = a.near (b.near c) := by
  have x1 := Px.near_le1 (a.near b) c
  have x2 := Px.near_le2 (a.near b) c
  have x3 := Px.le_trans x1 (Px.near_le1 a b)
  have x4 := Px.le_trans x1 (Px.near_le2 a b)
  have y1 := Px.near_le1 a (b.near c)
  have y2 := Px.near_le2 a (b.near c)
  have y3 := Px.le_trans y2 (Px.near_le1 b c)
  have y4 := Px.le_trans y2 (Px.near_le2 b c)
  have xm : (a.near b).near c = a ∨ (a.near b).near c = b ∨ (a.near b).near c = c := by
    rcases Px.near_mem (a.near b) c with h | h
    · rw [h]; rcases Px.near_mem a b with h | h <;> simp [h]
    · simp [h]
  have ym : a.near (b.near c) = a ∨ a.near (b.near c) = b ∨ a.near (b.near c) = c := by
    rcases Px.near_mem a (b.near c) with h | h
    · simp [h]
    · rw [h]; rcases Px.near_mem b c with h | h <;> simp [h]
  generalize (a.near b).near c = X at *
  generalize a.near (b.near c) = Y at *
  refine Px.le_antisymm ?_ ?_
  · rcases ym with rfl | rfl | rfl <;> assumption
  · rcases xm with rfl | rfl | rfl <;> assumption
theorem Px.near_self (a : Px) : a.near a = a := by rcases Px.near_mem a a with h | h <;> exact h
theorem near_may {a b : Px} (ha : a.may) (hB : b.may) : (a.near b).may := by
  rcases Px.near_mem a b with h | h <;> rw [h] <;> assumption
theorem nearL_self (xs : List Px) : nearL xs xs = xs := (nearL_is rfl rfl fun i _ => (Px.near_self _).symm).symm
theorem nearL_assoc {xs ys zs : List Px} (h1 : xs.length = ys.length) (h2 : xs.length = zs.length) : nearL (nearL xs ys) zs = nearL xs (nearL ys zs) := by
  have a1 := nearL_len h1
  have a2 := nearL_len (a := ys) (b := zs) (by omega)
  refine nearL_is (by rw [a2]; exact h1) (by rw [nearL_len (by omega), a1]) fun i hi => ?_
  rw [nearL_at (by omega) (by omega), nearL_at h1 hi, nearL_at (by omega) (by omega), Px.near_assoc]
theorem near_sp {xs ys : List Px} (h1 : spOk xs) (h2 : spOk ys) (he : xs.length = ys.length) : spOk (nearL xs ys) := by
  have hl := nearL_len he
  refine ⟨by have := h1.1; omega, fun i hi => ?_⟩
  rw [hl] at hi
  unfold mayAt
  rw [nearL_at he hi]
  exact near_may (h1.2 i hi) (h2.2 i (by omega))
theorem near_order {l m o : List Px} (h1 : l.length = m.length) (h2 : l.length = o.length) : nearL (nearL l m) o = nearL (nearL l o) m := by
  rw [nearL_assoc h1 h2, nearL_assoc h2 h1, nearL_comm m o]
end Go.Proofs.Ytnmkpekfkfckoaa
