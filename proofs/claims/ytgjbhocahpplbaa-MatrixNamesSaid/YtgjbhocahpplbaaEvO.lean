/- Regions, code, functions, reckoned. No program in sight. -/
import Derived.Test.YtgjbhocahpplbaaEvN
namespace Go.Proofs.Ytgjbhocahpplbaa.EV
noncomputable section
open Go.RowKit

def opCall (R : Rec) (S : ES) (X : List Nat) (o : Oper) (gk : List Key) (x : Operand) (xs : Array Operand) : Option (Tr × ES) := match opv S.s x with
  | some (.c (.f f ca)) => match R.X f with
    | none => match callE R S X o.dst x xs.toList f ca with
      | some (t, S') => some (⟨orR gk t.rd, t.ws⟩, S')
      | none => none
    | some g => match ca, valsE S.s xs.toList with
      | [], some (vs, ks) => match plainV vs with
        | some L => match g L with
          | some Z => match applyE S o.dst (.t (Z.map fun X => .inl (.v X))) .no with
            | some S' => some (⟨orR gk (kr (opk x ++ ks)), putW o.dst (.t (Z.map fun X => .inl (.v X)))⟩, S')
            | none => none
          | none => none
        | none => none
      | _, _ => none
  | some (.c (.y l)) => match yieldE R S o.dst xs.toList l with
    | some (t, S') => some (⟨orR gk t.rd, t.ws⟩, S')
    | none => none
  | _ => none
def opRest (P : Program) (S : ES) (o : Oper) (gk : List Key) (op : Op) : Option (Tr × ES) := match evalM P S.s S.nx o.dst op with
  | some (v, eff, ks) => match applyE S o.dst v eff with
    | some S' => some (⟨orR gk (kr ks), putW o.dst v ++ eff.ws S.nx⟩, S')
    | none => none
  | none => none
def opSkip (S : ES) (o : Oper) (gk : List Key) : Option (Tr × ES) := match applyE S o.dst (.c (.v undef)) .no with
  | some S' => some (⟨kr gk, putW o.dst (.c (.v undef))⟩, S')
  | none => none
/-- One operation of a region. -/
def opE (R : Rec) (P : Program) (N : Nat) (ops : Array Oper) (S : ES) (X : List Nat) (o : Oper) : Option (Tr × ES) := match dOk N o.dst, gdE ops S.s o.guard with
  | true, some (true, gk) => match o.op with
    | .call ⟨.value x, xs, _⟩ => opCall R S X o gk x xs
    | op => opRest P S o gk op
  | true, some (false, gk) => opSkip S o gk
  | _, _ => none
theorem opE_ok {P : Program} {R : Rec} (hX : SoundX P R.X) (hC : SoundC P R) (hFn : SoundF P R) {N : Nat} {ops : Array Oper} {S S' : ES} {X : List Nat} {o : Oper} {tr : Tr} (h : opE R P N ops S X o = some (tr, S')) (hi : S.Inv) :
    Ext S.h S.nx S.wl S'.h S'.nx S'.wl ∧ S'.fm = S.fm ∧ S'.s = upd S.s tr.ws ∧ ∀ (c : Ctx) (F : Fence) (nn i : Nat) (ro : Bool), c.P = P → FOk F ro → c.N = N → c.fm = S.fm → (∀ n, S.nx ≤ n → n < S'.nx → ¬ c.gv n) → ops[i]? = some o → LocalI c F nn ops i S.s tr := by
  unfold opE at h
  split at h
  · rename_i gk hN hg
    have rest : (match evalM P S.s S.nx o.dst o.op with
      | some (v, eff, ks) => match applyE S o.dst v eff with
        | some S' => some ((⟨orR gk (kr ks), putW o.dst v ++ eff.ws S.nx⟩ : Tr), S')
        | none => none
      | none => none) = some (tr, S') → Ext S.h S.nx S.wl S'.h S'.nx S'.wl ∧ S'.fm = S.fm ∧ S'.s = upd S.s tr.ws ∧ ∀ (c : Ctx) (F : Fence) (nn i : Nat) (ro : Bool), c.P = P → FOk F ro → c.N = N → c.fm = S.fm → (∀ n, S.nx ≤ n → n < S'.nx → ¬ c.gv n) → ops[i]? = some o → LocalI c F nn ops i S.s tr := fun h => by
      split at h
      · rename_i v eff ks hm
        split at h
        · rename_i S1 ha
          cases h
          obtain ⟨h1, h2, h3⟩ := applyE_ok ha hi
          refine ⟨h2, h3, h1, fun c F nn i ro hP hF hcN _ hgv ho => ?_⟩
          have hloc : LocalO c F nn ⟨o.dst, o.op, o.type, o.pos, o.after, o.guard⟩ S.s ⟨kr ks, putW o.dst v ++ eff.ws S.nx⟩ :=
            evalM_ok hP hF.w (by rw [hcN]; exact hN) (fun hf => hgv S.nx (Nat.le_refl _) (applyE_fresh ha hf)) (lk_l0.2 (hi S.nx (Nat.le_refl _))) hm
          exact hloc.under (gdE_yes hg) rfl ho
        · cases h
      · cases h
    split at h
    · rename_i x xs tys hop
      unfold opCall at h
      split at h
      · rename_i f ca hx
        split at h
        · split at h
          · rename_i t S1 hc
            cases h
            obtain ⟨h1, h2, h3, h4⟩ := callE_ok hFn hc hi hx
            refine ⟨h1, h2, h3, fun c F nn i ro hP hF hcN hfm hgv ho => ?_⟩
            have hloc : LocalO c F nn ⟨o.dst, .call ⟨.value x, xs.toList.toArray, tys⟩, o.type, o.pos, o.after, o.guard⟩ S.s t :=
              h4 c F nn tys o.type o.pos o.after o.guard hP hF.w (by rw [hcN]; exact hN) hfm hgv
            rw [Array.toArray_toList, ← hop] at hloc
            exact hloc.under (gdE_yes hg) rfl ho
          · cases h
        · rename_i g hxf
          split at h
          · rename_i vs ks hv
            split at h
            · rename_i L hL
              split at h
              · rename_i Z hZ
                split at h
                · rename_i S1 ha
                  cases h
                  obtain ⟨h1, h2, h3⟩ := applyE_ok ha hi
                  refine ⟨h2, h3, by rw [h1]; simp [Eff.ws], fun c F nn i ro hP hF hcN _ hgv ho => ?_⟩
                  have hv' := valsE_ok hv
                  rw [plainV_eq hL] at hv'
                  have hloc : LocalO c F nn ⟨o.dst, .call ⟨.value x, xs.toList.toArray, tys⟩, o.type, o.pos, o.after, o.guard⟩ S.s ⟨kr (opk x ++ ks), putW o.dst (.t (Z.map fun X => .inl (.v X)))⟩ :=
                    LocalO.ext hF.w (by rw [hcN]; exact hN) hx hv' (by subst hP; exact hX _ _ _ _ hxf hZ)
                  rw [Array.toArray_toList, ← hop] at hloc
                  exact hloc.under (gdE_yes hg) rfl ho
                · cases h
              · cases h
            · cases h
          · cases h
      · rename_i l hx
        split at h
        · rename_i t S1 hc
          cases h
          obtain ⟨h1, h2, h3, h4⟩ := yieldE_ok hC hc hi hx
          refine ⟨h1, h2, h3, fun c F nn i ro hP hF hcN hfm hgv ho => ?_⟩
          have hloc : LocalO c F nn ⟨o.dst, .call ⟨.value x, xs.toList.toArray, tys⟩, o.type, o.pos, o.after, o.guard⟩ S.s t :=
            h4 c F nn ro tys o.type o.pos o.after o.guard hP hF (by rw [hcN]; exact hN) hfm hgv
          rw [Array.toArray_toList, ← hop] at hloc
          exact hloc.under (gdE_yes hg) rfl ho
        · cases h
      · cases h
    · exact rest h
  · rename_i gk hN hg
    unfold opSkip at h
    split at h
    · rename_i S1 ha
      cases h
      obtain ⟨h1, h2, h3⟩ := applyE_ok ha hi
      refine ⟨h2, h3, by rw [h1]; simp [Eff.ws], fun c F nn i ro hP hF hcN _ hgv ho => gdE_no hg hF.w (by rw [hcN]; exact hN) ho⟩
    · cases h
  · cases h
def namesW : Ws → List Nat
  | [] => []
  | (.l n, .l true) :: r => n :: namesW r
  | _ :: r => namesW r
/-- New names of operations that need not be done before. -/
def hide (ops : Array Oper) (i nx0 : Nat) : Nat → List Tr → List Nat
  | k + 1, t :: r => bif reach ops (i + 1) i k then hide ops i nx0 k r else (namesW t.ws).filter (Nat.ble nx0) ++ hide ops i nx0 k r
  | _, _ => []
def opsE (R : Rec) (P : Program) (N : Nat) (draw : Bool) (ops : Array Oper) (nx0 : Nat) : List Oper → Nat → ES → List Tr → Option (ES × List Tr)
  | [], _, S, tr => some (S, tr)
  | o :: r, i, S, tr => match opE R P N ops S (bif draw then hide ops i nx0 i tr else []) o with
    | some (t, S') => opsE R P N draw ops nx0 r (i + 1) S' (t :: tr)
    | none => none
theorem opsE_ok {P : Program} {R : Rec} (hX : SoundX P R.X) (hC : SoundC P R) (hFn : SoundF P R) {N : Nat} {draw : Bool} {ops : Array Oper} {nx0 : Nat} : ∀ {rest : List Oper} {i : Nat} {S S' : ES} {tr tr' : List Tr}, opsE R P N draw ops nx0 rest i S tr = some (S', tr') → S.Inv →
    Ext S.h S.nx S.wl S'.h S'.nx S'.wl ∧ S'.fm = S.fm ∧ ∀ (c : Ctx) (F : Fence) (nn id : Nat) (ro : Bool) (Q : Exit → Act → World → Prop) (σ0 : Sf), c.P = P → FOk F ro → c.N = N → c.fm = S.fm → (∀ n, S.nx ≤ n → n < S'.nx → ¬ c.gv n) →
      RW c F nn id ops draw Q σ0 (i + rest.length) [] S'.s tr' → RW c F nn id ops draw Q σ0 i rest S.s tr
  | [], i, S, S', tr, tr', h, hi => by
    simp only [opsE, Option.some.injEq, Prod.mk.injEq] at h
    obtain ⟨rfl, rfl⟩ := h
    exact ⟨.refl hi, rfl, fun c F nn id ro Q σ0 _ _ _ _ _ h => h⟩
  | o :: r, i, S, S', tr, tr', h, hi => by
    simp only [opsE] at h
    split at h
    · rename_i t S1 ho
      obtain ⟨h1, h2, h3, h4⟩ := opE_ok hX hC hFn ho hi
      obtain ⟨g1, g2, g3⟩ := opsE_ok hX hC hFn h h1.inv
      refine ⟨h1.trans g1, g2.trans h2, fun c F nn id ro Q σ0 hP hF hN hfm hgv hrw => ?_⟩
      refine RW_step (fun hoi => h4 c F nn i ro hP hF hN hfm (fun n a b => hgv n a (Nat.lt_of_lt_of_le b g1.le)) hoi) ?_
      rw [← h3]
      refine g3 c F nn id ro Q σ0 hP hF hN (hfm.trans h2.symm) (fun n a b => hgv n (Nat.le_trans h1.le a) b) ?_
      rw [show i + 1 + r.length = i + (o :: r).length by simp; omega]; exact hrw
    · cases h
def regionE (R : Rec) (P : Program) (N : Nat) (ops : Array Oper) (draw : Bool) (S : ES) : Option (XT × ES) := match opsE R P N draw ops S.nx ops.toList 0 S [] with
  | some (S', tr) => match (bif draw then P.follows .mixedOrders && ordB ops tr.reverse else true) with
    | true => some (.normal, S')
    | false => none
  | none => none
/-- What is shown of code. -/
def OkC (P : Program) (N : Nat) (ro : Bool) (code : Code) (S : ES) (xt : XT) (S' : ES) : Prop :=
  Ext S.h S.nx S.wl S'.h S'.nx S'.wl ∧ ∀ (c : Ctx) (F : Fence) (nn : Nat) (Q : Exit → Act → World → Prop), c.P = P → FOk F ro → c.N = N → c.fm = S.fm → (∀ n, S.nx ≤ n → n < S'.nx → ¬ c.gv n) →
    KW { c with fm := S'.fm } (Q xt.ex) S'.s → CW c F nn code Q S.s
theorem Ctx.fm_same {c : Ctx} {S S' : ES} (h : c.fm = S.fm) (h2 : S'.fm = S.fm) : ({ c with fm := S'.fm } : Ctx) = c := Ctx.fm_eq (h.trans h2.symm)
theorem regionE_ok {P : Program} {R : Rec} (hX : SoundX P R.X) (hC : SoundC P R) (hFn : SoundF P R) {N id : Nat} {ro draw : Bool} {ops : Array Oper} {S S' : ES} {xt : XT} (h : regionE R P N ops draw S = some (xt, S')) (hi : S.Inv) : OkC P N ro (.region id ops draw) S xt S' := by
  unfold regionE at h
  split at h
  · rename_i S1 tr ho
    obtain ⟨h1, h2, h3⟩ := opsE_ok hX hC hFn ho hi
    split at h
    · rename_i hd
      cases h
      refine ⟨h1, fun c F nn Q hP hF hN hfm hgv hK => CW_region rfl (h3 c F nn id ro Q _ hP hF hN hfm hgv ?_)⟩
      rw [Ctx.fm_same hfm h2] at hK
      cases draw with
      | false => exact RW_end hK
      | true =>
        simp only [cond_true, Bool.and_eq_true] at hd
        exact RW_end_draw hF.room (by rw [hP]; exact hd.1) hd.2 hK
    · cases h
  · cases h
def loopE (R : Rec) (N : Nat) (ro : Bool) (x : Code) : Nat → ES → Option (XT × ES)
  | 0, _ => none
  | m + 1, S => match R.C N ro x S with
    | some (.normal, S') => loopE R N ro x m S'
    | r => r
theorem loopE_ok {P : Program} {R : Rec} (hC : SoundC P R) {N : Nat} {ro : Bool} {x : Code} : ∀ {m : Nat} {S S' : ES} {xt : XT}, loopE R N ro x m S = some (xt, S') → S.Inv →
    Ext S.h S.nx S.wl S'.h S'.nx S'.wl ∧ ∀ (c : Ctx) (F : Fence) (nn : Nat) (Q : Exit → Act → World → Prop), c.P = P → FOk F ro → c.N = N → c.fm = S.fm → (∀ n, S.nx ≤ n → n < S'.nx → ¬ c.gv n) →
      KW { c with fm := S'.fm } (Q xt.ex) S'.s → KW c (Code.roundsIn F nn c.P x Q m) S.s
  | 0, _, _, _, h, _ => by cases h
  | m + 1, S, S', xt, h, hi => by
    simp only [loopE] at h
    split at h
    · rename_i S1 h1
      obtain ⟨g1, g2⟩ := hC _ _ _ _ _ _ h1 hi
      obtain ⟨k1, k2⟩ := loopE_ok hC h g1.inv
      refine ⟨g1.trans k1, fun c F nn Q hP hF hN hfm hgv hK => KW_round (g2 c F nn _ hP hF hN hfm (fun n a b => hgv n a (Nat.lt_of_lt_of_le b k1.le)) ?_)⟩
      exact k2 { c with fm := S1.fm } F nn Q hP hF hN rfl (fun n a b => hgv n (Nat.le_trans g1.le a) b) hK
    · rename_i hne
      obtain ⟨g1, g2⟩ := hC _ _ _ _ _ _ h hi
      refine ⟨g1, fun c F nn Q hP hF hN hfm hgv hK => KW_round (g2 c F nn _ hP hF hN hfm hgv ?_)⟩
      cases xt with
      | normal => exact absurd h (hne _)
      | ret => exact hK
      | exit k => exact hK
end
end Go.Proofs.Ytgjbhocahpplbaa.EV
