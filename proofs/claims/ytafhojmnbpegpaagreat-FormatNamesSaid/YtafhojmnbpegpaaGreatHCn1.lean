/- slices.Clone of an empty slice at any place of a block, for the reckoner. -/
import Derived.Test.YtafhojmnbpegpaaGreatHCrz
namespace Go.Proofs.YtafhojmnbpegpaaGreat
set_option linter.unusedSimpArgs false
set_option linter.unusedVariables false
open Go.RowKit EV
open SX (Wr Tv Qu Rm Sh Is conjP eqs_iff eqs_false)
open EW (PlL PlT PlV PlVs LfV Mm Bt Opn GV YT lpOf nums)
set_option maxRecDepth 20000
theorem clone0n (o : Nat) (bs : List Int) : CT Tryz.prog 59 [.c (.g 0 o 0 0 1)] (upd EW.emp [(.l 0, .l true), (.b 0, .b (.w true (nums .u8 bs)))]) 1 2 (.c (.g 1 0 0 0 1)) (upd (upd EW.emp [(.l 0, .l true), (.b 0, .b (.w true (nums .u8 bs)))]) [(.l 1, .l true), (.b 1, .b (.w true []))]) := by
  refine EW.ctEnter EW.sup1 Tryz.func59 rfl Tryz.ntmps59 rfl EW.nlP ?_; intro w0 tch ini R hR
  all_goals try (refine EW.nm ?_)
  all_goals (refine EW.eRaw0 0 (fun ra rk => ?_))
  all_goals try (refine EW.eReg (id := 0) ?_; refine EW.eAssign ?_; refine EW.eEnd ?_; (try refine EW.nm ?_))
  all_goals try (refine EW.eReg (id := 1) ?_; refine EW.eMove ?_; (first | refine EW.eNilEqG ?_ | refine EW.eNilEqV ?_); refine EW.eEnd ?_; (try refine EW.nm ?_))
  all_goals try (first | refine EW.eYes (x := .tmp 4) ?_ | refine EW.eNo (x := .tmp 4) ?_ | (refine EW.eCond (x := .tmp 4) ?_ ?_ <;> (intro hb hb'; (try dsimp only at hb'); (try (exfalso; first | omega | with_reducible exact absurd rfl hb')))))
  all_goals try (refine EW.nm ?_)
  all_goals try (refine EW.eReg (id := 2) ?_; refine EW.eAssign ?_; refine EW.eEnd ?_; (try refine EW.nm ?_))
  all_goals try (refine EW.eNilGK 2 20 1 ?_)
  all_goals try (with_reducible refine EW.parkK ?_)
  all_goals try (refine EW.eReg (id := 3) ?_; refine EW.eBuildSlice (k := 1) ?_; refine EW.eMove ?_; (first | refine EW.eAppGW (z := 1) ?_ | refine EW.eAppG (z := 1) ?_ | refine EW.eAppZW (z := 1) ?_ | refine EW.eAppZ (z := 1) ?_ | refine EW.eAppSW (z := 1) ?_ | refine EW.eAppS (z := 1) ?_ | refine EW.eAppNW (z := 1) ?_ | refine EW.eAppN (z := 1) ?_); refine EW.eAssign ?_; refine EW.eEnd ?_; (try refine EW.nm ?_))
  all_goals try (with_reducible refine EW.parkK ?_)
  all_goals try (refine EW.Park.mk ?_)
  all_goals (refine EW.eLeaveN [20] hR EW.orP (by rfl) (by rfl) ?_ ?_ rfl rfl EW.nlP rfl rfl; rotate_left 1; (· ((repeat (first | exact EW.atE.nil | refine EW.atE.lt rfl ?_ | refine EW.atE.lf ?_ | refine EW.atE.b rfl EW.SameB.refl ?_ | (refine EW.atE.b rfl ?_ ?_; rotate_left 1))))))
  all_goals rfl
noncomputable def crcY (f : FuncId) (args : List V) (h : Hp) (nx : Nat) : Option (V × Hp × Nat × List Nat) := match args with
  | [.c (.g k o 0 0 1)] => bif Nat.beq f 59 then match h.get k with
    | some (true, b) => match bsOf b with
      | some bs => match applyH h nx [] (.chg k (.w true (nums .u8 bs))) with
        | some (h1, nx1, wl1) => bif Nat.beq nx1 nx then match applyH h1 nx [] (.new (.w true [])) with
          | some (h2, nx2, wl2) => bif Nat.beq nx2 (nx + 1) then some (.c (.g nx 0 0 0 1), h2, nx2, wl2 ++ wl1) else none
          | none => none else none
        | none => none
      | none => crcZ f args h nx
    | _ => crcZ f args h nx
    else crcZ f args h nx
  | args => crcZ f args h nx
theorem crcY_ok : EW.SoundZ Tryz.prog crcY := by
  intro f args h nx v h' nx' wl hz hi
  unfold crcY at hz
  split at hz
  · rename_i _ k o
    cases hf : Nat.beq f 59 with
    | false => rw [hf, cond_false] at hz; exact crcZ_ok _ _ _ _ _ _ _ _ hz hi
    | true =>
      rw [hf, cond_true] at hz
      split at hz
      · rename_i b hg
        split at hz
        · rename_i bs hb
          obtain rfl := bsOf_ok hb
          obtain rfl := Nat.eq_of_beq_eq_true hf
          split at hz
          · rename_i h1 nx1 wl1 ha
            cases hx : Nat.beq nx1 nx with
            | false => rw [hx, cond_false] at hz; cases hz
            | true =>
              rw [hx, cond_true] at hz
              obtain rfl := Nat.eq_of_beq_eq_true hx
              split at hz
              · rename_i h2 nx2 wl2 ha2
                cases hx2 : Nat.beq nx2 (nx1 + 1) with
                | false => rw [hx2, cond_false] at hz; cases hz
                | true =>
                  rw [hx2, cond_true] at hz
                  cases hz
                  obtain rfl := Nat.eq_of_beq_eq_true hx2
                  have hk : k < nx1 := Nat.lt_of_not_le fun hle => by rw [hi k hle] at hg; cases hg
                  obtain ⟨e1, e2⟩ := applyH_ok (t := .e) ha hi
                  obtain ⟨f1, f2⟩ := applyH_ok (t := .e) ha2 e2.inv
                  refine ⟨e2.trans f2.more, ⟨.e, ?_⟩, Tryz.call59⟩
                  rw [f1, e1]
                  have := EW.CT.frame (s := upd (lk .e h) [(.b k, .b (.w true (nums .u8 bs)))]) (ns := [k]) (m := nx1) (clone0n o bs) (fun i => by rw [upd_cons_ne _ _ _ (by simp), upd_nil]; rfl) rfl rfl rfl (by simp only [EW.rnOk, EW.inL, Nat.blt_eq, Bool.not_false, Bool.and_self, Bool.and_true]; exact hk) ⟨by rw [upd_cons_ne _ _ _ (by simp), upd_nil]; exact lk_l.2 ⟨_, hg⟩, by show upd _ [(.b k, _)] (.b k) = _; rw [upd_cons]; simp; rfl, True.intro⟩ (by show ((upd (lk .e h) [(.b k, .b (.w true (nums .u8 bs)))] (.l (nx1 + 0))).isNone && true) = true; rw [Nat.add_zero, upd_cons_ne _ _ _ (by simp), upd_nil, lk_l0.2 (hi nx1 (Nat.le_refl _))]; rfl) rfl
                  exact EW.CT.toW this (lk_b.2 ⟨_, hg⟩)
              · cases hz
          · cases hz
        · exact crcZ_ok _ _ _ _ _ _ _ _ hz hi
      · exact crcZ_ok _ _ _ _ _ _ _ _ hz hi
  · exact crcZ_ok _ _ _ _ _ _ _ _ hz hi
end Go.Proofs.YtafhojmnbpegpaaGreat
