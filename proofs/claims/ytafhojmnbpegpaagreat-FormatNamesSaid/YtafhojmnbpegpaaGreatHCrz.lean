/- crc.More and slices.Clone, told to the reckoner. -/
import Derived.Test.YtafhojmnbpegpaaGreatHCrc
import Derived.Test.YtafhojmnbpegpaaGreatHCn0
namespace Go.Proofs.YtafhojmnbpegpaaGreat
set_option linter.unusedSimpArgs false
set_option linter.unusedVariables false
open Go.RowKit EV
open EW (PlL PlT PlV PlVs nums plL plL_ok)
def u8l : List Value → Option (List Int)
  | [] => some []
  | .int .u8 x :: l => match u8l l with
    | some r => some (x :: r)
    | none => none
  | _ => none
theorem u8l_ok : ∀ {l : List Value} {bs : List Int}, u8l l = some bs → l = nums .u8 bs
  | [], bs, h => by simp only [u8l, Option.some.injEq] at h; subst h; rfl
  | .int .u8 x :: l, bs, h => by
    simp only [u8l] at h
    cases hl : u8l l with
    | none => rw [hl] at h; cases h
    | some r => rw [hl] at h; cases h; rw [u8l_ok hl]; rfl
/-- The bytes of a block. -/
def bsOf : B → Option (List Int)
  | .m true l => match plL l with
    | some L => u8l L
    | none => none
  | _ => none
def wsOf8 : B → Option (List Int)
  | .w true L => u8l L
  | _ => none
theorem bsOf_ok {b : B} {bs : List Int} (h : bsOf b = some bs) : b = .m true ((nums .u8 bs).map C.v) := by
  unfold bsOf at h
  split at h
  · split at h
    · rename_i L hL
      rw [u8l_ok h] at hL
      rw [(plL_ok hL).eq]
    · cases h
  · cases h
theorem wsOf8_ok {b : B} {bs : List Int} (h : wsOf8 b = some bs) : b = .w true (nums .u8 bs) := by
  unfold wsOf8 at h
  split at h
  · rw [u8l_ok h]
  · cases h
def moreR (x : Int) (bs : List Int) (p n : Nat) : V := .c (.v (.int .u32 (invV (crcV (invV x) ((bs.drop p).take n)))))
/-- What More answers, told of a block. -/
noncomputable def moreB (x : Int) (k p n : Nat) (h : Hp) (nx : Nat) : Option (V × Hp × Nat × List Nat) := match h.get k with
  | some (true, b) => match wsOf8 b with
    | some bs => bif Nat.ble (p + n) bs.length && Nat.ble bs.length 1000000 then some (moreR x bs p n, h, nx, []) else none
    | none => match bsOf b with
      | some bs => bif Nat.ble (p + n) bs.length && Nat.ble bs.length 1000000 then match applyH h nx [] (.chg k (.w true (nums .u8 bs))) with
        | some (h', nx', wl) => bif Nat.beq nx' nx then some (moreR x bs p n, h', nx', wl) else none
        | none => none else none
      | none => none
  | _ => none
theorem moreB_ok {x : Int} {k p n : Nat} {h h' : Hp} {nx nx' : Nat} {v : V} {wl : List Nat} (C0 : C) (C1 : C) (hC : EW.Cren (EW.rn [k] nx) C0 = C1)
    (hct : ∀ bs : List Int, p + n ≤ bs.length → bs.length ≤ 1000000 → CT Tryz.prog 88 [.c (.v (.int .u32 x)), .c C0] (upd EW.emp [(.l 0, .l true), (.b 0, .b (.w true (nums .u8 bs)))]) 1 1 (moreR x bs p n) (upd (upd EW.emp [(.l 0, .l true), (.b 0, .b (.w true (nums .u8 bs)))]) []))
    (hal : EW.argsLt 1 [.c (.v (.int .u32 x)), .c C0] = true)
    (hh : moreB x k p n h nx = some (v, h', nx', wl)) (hi : ∀ n, nx ≤ n → h.get n = none) :
    Ext h nx [] h' nx' wl ∧ ∃ t', CT Tryz.prog 88 [.c (.v (.int .u32 x)), .c C1] (lk .e h) nx nx' v (lk t' h') := by
  unfold moreB at hh
  split at hh
  · rename_i b hg
    have hk : k < nx := Nat.lt_of_not_le fun hle => by rw [hi k hle] at hg; cases hg
    split at hh
    · rename_i bs hb
      obtain rfl := wsOf8_ok hb
      cases hq : (Nat.ble (p + n) bs.length && Nat.ble bs.length 1000000) with
      | false => rw [hq, cond_false] at hh; cases hh
      | true =>
        rw [hq, cond_true] at hh
        cases hh
        simp only [Bool.and_eq_true, Nat.ble_eq] at hq
        refine ⟨.refl hi, .e, ?_⟩
        have := EW.CT.frame (s := lk .e h) (ns := [k]) (m := nx) (hct bs hq.1 hq.2) (fun i => rfl) rfl rfl rfl (by simp only [EW.rnOk, EW.inL, Nat.blt_eq, Bool.not_false, Bool.and_self, Bool.and_true]; exact hk) ⟨lk_l.2 ⟨_, hg⟩, lk_b.2 ⟨_, hg⟩, True.intro⟩ rfl hal
        rw [← hC]
        exact this
    · split at hh
      · rename_i bs hb
        obtain rfl := bsOf_ok hb
        cases hq : (Nat.ble (p + n) bs.length && Nat.ble bs.length 1000000) with
        | false => rw [hq, cond_false] at hh; cases hh
        | true =>
          rw [hq, cond_true] at hh
          split at hh
          · rename_i h2 nx2 wl2 ha
            cases hx : Nat.beq nx2 nx with
            | false => rw [hx, cond_false] at hh; cases hh
            | true =>
              rw [hx, cond_true] at hh
              cases hh
              obtain rfl := Nat.eq_of_beq_eq_true hx
              simp only [Bool.and_eq_true, Nat.ble_eq] at hq
              obtain ⟨e1, e2⟩ := applyH_ok (t := .e) ha hi
              refine ⟨e2, .e, ?_⟩
              rw [e1]
              have := EW.CT.frame (s := upd (lk .e h) [(.b k, .b (.w true (nums .u8 bs)))]) (ns := [k]) (m := nx') (hct bs hq.1 hq.2) (fun i => by rw [upd_cons_ne _ _ _ (by simp), upd_nil]; rfl) rfl rfl rfl (by simp only [EW.rnOk, EW.inL, Nat.blt_eq, Bool.not_false, Bool.and_self, Bool.and_true]; exact hk) ⟨by rw [upd_cons_ne _ _ _ (by simp), upd_nil]; exact lk_l.2 ⟨_, hg⟩, by show upd _ [(.b k, _)] (.b k) = _; rw [upd_cons]; simp; rfl, True.intro⟩ rfl hal
              rw [← hC]
              exact EW.CT.toW this (lk_b.2 ⟨_, hg⟩)
          · cases hh
      · cases hh
  · cases hh
noncomputable def crcZ (f : FuncId) (args : List V) (h : Hp) (nx : Nat) : Option (V × Hp × Nat × List Nat) := match args with
  | [.c (.v (.int .u32 x)), .c (.g k p n lb 1)] => bif Nat.beq f 88 then moreB x k p n h nx else none
  | [.c (.v (.int .u32 x)), .c (.s k p n lb)] => bif Nat.beq f 88 then moreB x k p n h nx else none
  | args => cloneZ f args h nx
theorem crcZ_ok : EW.SoundZ Tryz.prog crcZ := by
  intro f args h nx v h' nx' wl hz hi
  unfold crcZ at hz
  split at hz
  · rename_i x k p n lb
    cases hf : Nat.beq f 88 with
    | false => rw [hf, cond_false] at hz; cases hz
    | true =>
      rw [hf, cond_true] at hz
      obtain rfl := Nat.eq_of_beq_eq_true hf
      obtain ⟨g1, g2⟩ := moreB_ok (.g 0 p n lb 1) (.g k p n lb 1) rfl (fun bs h1 h2 => more_g x bs p n lb h1 h2) rfl hz hi
      exact ⟨g1, g2, Tryz.call88⟩
  · rename_i x k p n lb
    cases hf : Nat.beq f 88 with
    | false => rw [hf, cond_false] at hz; cases hz
    | true =>
      rw [hf, cond_true] at hz
      obtain rfl := Nat.eq_of_beq_eq_true hf
      obtain ⟨g1, g2⟩ := moreB_ok (.s 0 p n lb) (.s k p n lb) rfl (fun bs h1 h2 => more_s x bs p n lb h1 h2) rfl hz hi
      exact ⟨g1, g2, Tryz.call88⟩
  · exact cloneZ_ok _ _ _ _ _ _ _ _ hz hi
end Go.Proofs.YtafhojmnbpegpaaGreat
