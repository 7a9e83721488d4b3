/- mullionlaw16.wrong told to the reckoner. -/
import Derived.Test.YtnmkpekfkfckoaaHRlW
namespace Go.Proofs.Ytnmkpekfkfckoaa
set_option linter.unusedSimpArgs false
set_option linter.unusedVariables false
open Go.RowKit EV
open EW (PlL PlT PlV PlVs nums plL plL_ok emp)
noncomputable def wrB (k n : Nat) (h : Hp) (nx : Nat) : Option (V × Hp × Nat × List Nat) := match h.get k with
  | some (true, b) => match bsOf b with
    | some bs => bif Nat.beq n bs.length && wlits.any (fun l => decide (l = bs)) then match applyH h nx [] (.chg k (.w true (nums .u8 bs))) with
      | some (h', nx', wl) => bif Nat.beq nx' nx then some (.c (.v (.bool true)), h', nx + 4095, wl) else none
      | none => none else none
    | none => none
  | _ => none
theorem wrB_ok {k n nx nx' : Nat} {h h' : Hp} {v : V} {wl : List Nat} (hh : wrB k n h nx = some (v, h', nx', wl)) (hi : ∀ n, nx ≤ n → h.get n = none) :
    Ext h nx [] h' nx' wl ∧ ∃ t', CT Try.prog 29 [.c (.s k 0 n n)] (lk .e h) nx nx' v (lk t' h') := by
  unfold wrB at hh
  split at hh
  · rename_i b hg
    have hk : k < nx := Nat.lt_of_not_le fun hle => by rw [hi k hle] at hg; cases hg
    split at hh
    · rename_i bs hb
      obtain rfl := bsOf_ok hb
      cases hq : (Nat.beq n bs.length && wlits.any (fun l => decide (l = bs))) with
      | false => rw [hq, cond_false] at hh; cases hh
      | true =>
        rw [hq, cond_true] at hh
        split at hh
        · rename_i h2 nx2 wl2 ha
          cases hx : Nat.beq nx2 nx with
          | false => rw [hx, cond_false] at hh; cases hh
          | true =>
            rw [hx, cond_true] at hh
            cases hh
            obtain rfl := Nat.eq_of_beq_eq_true hx
            rw [Bool.and_eq_true] at hq
            obtain rfl := Nat.eq_of_beq_eq_true hq.1
            obtain ⟨l, hl, he⟩ := List.any_eq_true.1 hq.2
            obtain rfl := of_decide_eq_true he
            obtain ⟨e1, e2⟩ := applyH_ok (t := .e) ha hi
            refine ⟨⟨by omega, fun n hn => e2.inv n (by omega), e2.al, e2.rev, e2.own, e2.sub, e2.un⟩, .e, ?_⟩
            rw [e1]
            have := EW.CT.frame (s := upd (lk .e h) [(.b k, .b (.w true (nums .u8 l)))]) (ns := [k]) (m := nx2) (wrE_ok (wl_all l hl)) (fun i => by rw [upd_cons_ne _ _ _ (by simp), upd_nil]; rfl) rfl rfl rfl (by simp only [EW.rnOk, EW.inL, Nat.blt_eq, Bool.not_false, Bool.and_self, Bool.and_true]; exact hk) ⟨by rw [upd_cons_ne _ _ _ (by simp), upd_nil]; exact lk_l.2 ⟨_, hg⟩, by show upd _ [(.b k, _)] (.b k) = _; rw [upd_cons]; simp; rfl, True.intro⟩ (by
              have key : ∀ j, EW.freeB (upd (lk .e h) [(.b k, .b (.w true (nums .u8 l)))]) nx2 j = true := fun j => by
                induction j with
                | zero => rfl
                | succ j ih => simp only [EW.freeB, ih, Bool.and_true]; rw [upd_cons_ne _ _ _ (by simp), upd_nil, lk_l0.2 (hi (nx2 + j) (by omega))]; rfl
              exact key _) rfl
            exact EW.CT.toW this (lk_b.2 ⟨_, hg⟩)
        · cases hh
    · cases hh
  · cases hh
noncomputable def rlZ (f : FuncId) (args : List V) (h : Hp) (nx : Nat) : Option (V × Hp × Nat × List Nat) := match args with
  | [.c (.s k 0 n n')] => bif Nat.beq f 29 && Nat.beq n n' then wrB k n h nx else crcZ f [.c (.s k 0 n n')] h nx
  | args => crcZ f args h nx
theorem rlZ_ok : EW.SoundZ Try.prog rlZ := by
  intro f args h nx v h' nx' wl hz hi
  unfold rlZ at hz
  split at hz
  · rename_i k n n'
    cases hf : (Nat.beq f 29 && Nat.beq n n') with
    | false => rw [hf, cond_false] at hz; exact crcZ_ok _ _ _ _ _ _ _ _ hz hi
    | true =>
      rw [hf, cond_true] at hz
      rw [Bool.and_eq_true] at hf
      obtain rfl := Nat.eq_of_beq_eq_true hf.1
      obtain rfl := Nat.eq_of_beq_eq_true hf.2
      obtain ⟨g1, g2⟩ := wrB_ok hz hi
      exact ⟨g1, g2, Try.call29⟩
  · exact crcZ_ok _ _ _ _ _ _ _ _ hz hi
end Go.Proofs.Ytnmkpekfkfckoaa
