/- slices.Clone of an empty slice whose nil is not known, for the reckoner. -/
import Derived.Test.YtafhojmnbpegpaaGreatHEw7
import Derived.Test.YtafhojmnbpegpaaGreatHEwZ
import Derived.Test.YtafhojmnbpegpaaGreatHZK
namespace Go.Proofs.YtafhojmnbpegpaaGreat
set_option linter.unusedSimpArgs false
set_option linter.unusedVariables false
open Go.RowKit EV
open SX (Wr Tv Qu Rm Sh Is conjP eqs_iff eqs_false)
open EW (PlL PlT PlV PlVs LfV Mm Bt Opn GV YT lpOf nums)
set_option maxRecDepth 20000
theorem clone0m : CT Tryz.prog 59 [.c (.g 0 0 0 0 1)] (upd EW.emp [(.l 0, .l true), (.b 0, .b (.m true []))]) 1 2 (.c (.g 1 0 0 0 1)) (upd (upd EW.emp [(.l 0, .l true), (.b 0, .b (.m true []))]) [(.l 1, .l true), (.b 1, .b (.w true []))]) := by
  refine EW.ctEnter EW.sup1 Tryz.func59 rfl Tryz.ntmps59 rfl EW.nlP ?_; intro w0 tch ini R hR
  all_goals try (refine EW.nm ?_)
  all_goals (refine EW.eRaw0 0 (fun ra rk => ?_))
  all_goals try ((first | refine EW.eRegL (id := 0) ?_ | refine EW.eReg (id := 0) ?_); refine EW.eAssign ?_; refine EW.eEnd ?_; (try refine EW.nm ?_))
  all_goals try ((first | refine EW.eRegL (id := 1) ?_ | refine EW.eReg (id := 1) ?_); refine EW.eMove ?_; (first | refine EW.eNilEqG ?_ | refine EW.eNilEqV ?_); refine EW.eEnd ?_; (try refine EW.nm ?_))
  all_goals try (first | refine EW.eYes (x := Operand.tmp 4) ?_ | refine EW.eNo (x := Operand.tmp 4) ?_ | (refine EW.eCond (x := Operand.tmp 4) ?_ ?_ <;> (intro hb hb'; (try dsimp only at hb'); (try (exfalso; first | omega | with_reducible exact absurd rfl hb')))))
  all_goals try (refine EW.nm ?_)
  all_goals try ((first | refine EW.eRegL (id := 2) ?_ | refine EW.eReg (id := 2) ?_); refine EW.eAssign ?_; refine EW.eEnd ?_; (try refine EW.nm ?_))
  all_goals try (refine EW.eNilGK 2 20 1 ?_)
  all_goals try (with_reducible refine EW.parkK ?_)
  all_goals try ((first | refine EW.eRegL (id := 3) ?_ | refine EW.eReg (id := 3) ?_); refine EW.eBuildSlice (k := 1) ?_; refine EW.eMove ?_; (first | refine EW.eAppGW (z := 1) ?_ | refine EW.eAppG (z := 1) ?_ | refine EW.eAppZW (z := 1) ?_ | refine EW.eAppZ (z := 1) ?_ | refine EW.eAppSW (z := 1) ?_ | refine EW.eAppS (z := 1) ?_ | refine EW.eAppNW (z := 1) ?_ | refine EW.eAppN (z := 1) ?_); refine EW.eAssign ?_; refine EW.eEnd ?_; (try refine EW.nm ?_))
  all_goals try (with_reducible refine EW.parkK ?_)
  all_goals try (refine EW.Park.mk ?_)
  all_goals (refine EW.eLeaveN [20] hR EW.orP (by rfl) (by rfl) ?_ ?_ rfl rfl EW.nlP rfl rfl; rotate_left 1; (· ((repeat (first | exact EW.atE.nil | refine EW.atE.lt rfl ?_ | refine EW.atE.lf ?_ | refine EW.atE.b rfl EW.SameB.refl ?_ | (refine EW.atE.b rfl ?_ ?_; rotate_left 1))))))
  all_goals rfl
theorem clone0w : CT Tryz.prog 59 [.c (.g 0 0 0 0 1)] (upd EW.emp [(.l 0, .l true), (.b 0, .b (.w true []))]) 1 2 (.c (.g 1 0 0 0 1)) (upd (upd EW.emp [(.l 0, .l true), (.b 0, .b (.w true []))]) [(.l 1, .l true), (.b 1, .b (.w true []))]) := by
  refine EW.ctEnter EW.sup1 Tryz.func59 rfl Tryz.ntmps59 rfl EW.nlP ?_; intro w0 tch ini R hR
  all_goals try (refine EW.nm ?_)
  all_goals (refine EW.eRaw0 0 (fun ra rk => ?_))
  all_goals try ((first | refine EW.eRegL (id := 0) ?_ | refine EW.eReg (id := 0) ?_); refine EW.eAssign ?_; refine EW.eEnd ?_; (try refine EW.nm ?_))
  all_goals try ((first | refine EW.eRegL (id := 1) ?_ | refine EW.eReg (id := 1) ?_); refine EW.eMove ?_; (first | refine EW.eNilEqG ?_ | refine EW.eNilEqV ?_); refine EW.eEnd ?_; (try refine EW.nm ?_))
  all_goals try (first | refine EW.eYes (x := Operand.tmp 4) ?_ | refine EW.eNo (x := Operand.tmp 4) ?_ | (refine EW.eCond (x := Operand.tmp 4) ?_ ?_ <;> (intro hb hb'; (try dsimp only at hb'); (try (exfalso; first | omega | with_reducible exact absurd rfl hb')))))
  all_goals try (refine EW.nm ?_)
  all_goals try ((first | refine EW.eRegL (id := 2) ?_ | refine EW.eReg (id := 2) ?_); refine EW.eAssign ?_; refine EW.eEnd ?_; (try refine EW.nm ?_))
  all_goals try (refine EW.eNilGK 2 20 1 ?_)
  all_goals try (with_reducible refine EW.parkK ?_)
  all_goals try ((first | refine EW.eRegL (id := 3) ?_ | refine EW.eReg (id := 3) ?_); refine EW.eBuildSlice (k := 1) ?_; refine EW.eMove ?_; (first | refine EW.eAppGW (z := 1) ?_ | refine EW.eAppG (z := 1) ?_ | refine EW.eAppZW (z := 1) ?_ | refine EW.eAppZ (z := 1) ?_ | refine EW.eAppSW (z := 1) ?_ | refine EW.eAppS (z := 1) ?_ | refine EW.eAppNW (z := 1) ?_ | refine EW.eAppN (z := 1) ?_); refine EW.eAssign ?_; refine EW.eEnd ?_; (try refine EW.nm ?_))
  all_goals try (with_reducible refine EW.parkK ?_)
  all_goals try (refine EW.Park.mk ?_)
  all_goals (refine EW.eLeaveN [20] hR EW.orP (by rfl) (by rfl) ?_ ?_ rfl rfl EW.nlP rfl rfl; rotate_left 1; (· ((repeat (first | exact EW.atE.nil | refine EW.atE.lt rfl ?_ | refine EW.atE.lf ?_ | refine EW.atE.b rfl EW.SameB.refl ?_ | (refine EW.atE.b rfl ?_ ?_; rotate_left 1))))))
  all_goals rfl
noncomputable def cloneZ (f : FuncId) : List V → Hp → Nat → Option (V × Hp × Nat × List Nat)
  | [.c (.g n 0 0 0 1)], h, nx => bif Nat.beq f 59 then match h.get n with
    | some (true, .m true []) => match applyH h nx [] (.new (.w true [])) with
      | some (h', nx', wl) => bif Nat.beq nx' (nx + 1) then some (.c (.g nx 0 0 0 1), h', nx', wl) else none
      | none => none
    | some (true, .w true []) => match applyH h nx [] (.new (.w true [])) with
      | some (h', nx', wl) => bif Nat.beq nx' (nx + 1) then some (.c (.g nx 0 0 0 1), h', nx', wl) else none
      | none => none
    | _ => none
    else none
  | _, _, _ => none
theorem clone_one {n nx nx' : Nat} {h h' : Hp} {wl : List Nat} {b : B} (hb : EW.Bren (EW.rn [n] nx) b = b) (hct : CT Tryz.prog 59 [.c (.g 0 0 0 0 1)] (upd EW.emp [(.l 0, .l true), (.b 0, .b b)]) 1 2 (.c (.g 1 0 0 0 1)) (upd (upd EW.emp [(.l 0, .l true), (.b 0, .b b)]) [(.l 1, .l true), (.b 1, .b (.w true []))]))
    (hw0 : EW.w0Ok 1 [(.l 0, .l true), (.b 0, .b b)] = true) (hg : h.get n = some (true, b)) (ha : applyH h nx [] (.new (.w true [])) = some (h', nx', wl)) (hx : nx' = nx + 1) (hi : ∀ n, nx ≤ n → h.get n = none) :
    Ext h nx [] h' nx' wl ∧ ∃ t', CT Tryz.prog 59 [.c (.g n 0 0 0 1)] (lk .e h) nx nx' (.c (.g nx 0 0 0 1)) (lk t' h') := by
  obtain ⟨e1, e2⟩ := applyH_ok (t := .e) ha hi
  refine ⟨e2, .e, ?_⟩
  subst hx
  have hn : n < nx := Nat.lt_of_not_le fun hle => by rw [hi n hle] at hg; cases hg
  have := EW.CT.frame (s := lk .e h) (ns := [n]) (m := nx) hct (fun i => rfl) rfl hw0 rfl (by simp only [EW.rnOk, EW.inL, Nat.blt_eq, Bool.not_false, Bool.and_self, Bool.and_true]; exact hn) ⟨lk_l.2 ⟨_, hg⟩, by rw [hb]; exact lk_b.2 ⟨_, hg⟩, True.intro⟩ (by show ((lk .e h (.l (nx + 0))).isNone && true) = true; rw [Nat.add_zero, lk_l0.2 (hi nx (Nat.le_refl _))]; rfl) rfl
  rw [e1]
  exact this
theorem cloneZ_ok : EW.SoundZ Tryz.prog cloneZ := by
  intro f args h nx v h' nx' wl hz hi
  unfold cloneZ at hz
  split at hz
  · rename_i _ _ n
    cases hf : Nat.beq f 59 with
    | false => rw [hf, cond_false] at hz; cases hz
    | true =>
      rw [hf, cond_true] at hz
      obtain rfl := Nat.eq_of_beq_eq_true hf
      split at hz
      · rename_i hg
        split at hz
        · rename_i h2 nx2 wl2 ha
          cases hx : Nat.beq nx2 (nx + 1) with
          | false => rw [hx, cond_false] at hz; cases hz
          | true =>
            rw [hx, cond_true] at hz
            cases hz
            obtain ⟨g1, g2⟩ := clone_one rfl clone0m rfl hg ha (Nat.eq_of_beq_eq_true hx) hi
            exact ⟨g1, g2, Tryz.call59⟩
        · cases hz
      · rename_i hg
        split at hz
        · rename_i h2 nx2 wl2 ha
          cases hx : Nat.beq nx2 (nx + 1) with
          | false => rw [hx, cond_false] at hz; cases hz
          | true =>
            rw [hx, cond_true] at hz
            cases hz
            obtain ⟨g1, g2⟩ := clone_one rfl clone0w rfl hg ha (Nat.eq_of_beq_eq_true hx) hi
            exact ⟨g1, g2, Tryz.call59⟩
        · cases hz
      · cases hz
  · cases hz
end Go.Proofs.YtafhojmnbpegpaaGreat
