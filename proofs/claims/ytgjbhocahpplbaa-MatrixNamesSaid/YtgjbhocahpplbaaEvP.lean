/- Code and functions, reckoned: the whole. No program in sight. -/
import Derived.Test.YtgjbhocahpplbaaEvO
namespace Go.Proofs.Ytgjbhocahpplbaa.EV
noncomputable section
open Go.RowKit

def fcTs (l : List (Nat × V)) : Option (List (Nat × V)) := fcLs (fun x => match x with
  | (i, v) => match fcN i with
    | some j => some (j, v)
    | none => none) l
theorem fcTs_eq {l r : List (Nat × V)} (h : fcTs l = some r) : l = r :=
  fcLs_eq (fun x y h => by
    obtain ⟨i, v⟩ := x
    simp only at h
    split at h
    · rename_i j hj; cases h; rw [fcN_eq hj]
    · cases h) h
def rangeE (R : Rec) (N : Nat) (g : Operand) (ps : Array Tmp) (ag bd : Code) (S : ES) : Option (XT × ES) := match S with
  | ⟨t, h, nx, wl, fm⟩ => match opv (lk t h) g with
    | some (.c (.f gf ca)) => match ca.all (fun q => lv (lk t h) q.1), fcTs (t.list (fun k => k) []), fcN (nx + 1), fcN (nx + 2) with
      | true, some ts, some n1, some n2 => match T.put 40 h nx (true, .df) with
        | some h1 => match T.put 40 h1 n1 (true, .lp ⟨.ready, none, N, ts, ps, ag, bd, nx⟩) with
          | some h2 => match R.F gf (.c (.y n1) :: capV ca) h2 n2 with
            | some (_, h3, nx3, wl3) => match h3.get n1 with
              | some (true, .lp ⟨st, pe, N1, ts1, ps1, ag1, bd1, D1⟩) => match (match st with | .busy => false | _ => true), T.put 40 h3 n1 (true, .lp ⟨.exhausted, pe, N1, ts1, ps1, ag1, bd1, D1⟩) with
                | true, some h4 => match (nx :: fm).all (fun n => match h4.get n with | some (true, .df) => true | _ => false) with
                  | true => match pe with
                    | none => some (.normal, ⟨t, h4, nx3, n1 :: (wl3 ++ (n1 :: nx :: wl)), nx :: fm⟩)
                    | some j => R.C N false j ⟨t, h4, nx3, n1 :: (wl3 ++ (n1 :: nx :: wl)), nx :: fm⟩
                  | false => none
                | _, _ => none
              | _ => none
            | none => none
          | none => none
        | none => none
      | _, _, _, _ => none
    | _ => none
theorem rangeE_ok {P : Program} {R : Rec} (hC : SoundC P R) (hFn : SoundF P R) {N : Nat} {g : Operand} {ps : Array Tmp} {ag bd : Code} {S S' : ES} {xt : XT} (h : rangeE R N g ps ag bd S = some (xt, S')) (hi : S.Inv) : OkC P N false (.rangeFunc g ps ag bd) S xt S' := by
  obtain ⟨t, h0, nx, wl, fm⟩ := S
  simp only [rangeE] at h
  split at h
  · rename_i gf ca hg
    split at h
    · rename_i ts n1 n2 hca hts hn1 hn2
      obtain rfl := fcN_eq hn1
      obtain rfl := fcN_eq hn2
      obtain rfl := fcTs_eq hts
      split at h
      · rename_i h1 hp1
        split at h
        · rename_i h2 hp2
          split at h
          · rename_i v h3 nx3 wl3 hF
            split at h
            · rename_i st pe N1 ts1 ps1 ag1 bd1 D1 hl3
              split at h
              · rename_i h4 hst hp4
                split at h
                · rename_i hfm
                  have hi' : ∀ n, nx ≤ n → h0.get n = none := hi
                  have e1 : Ext h0 nx wl h1 (nx + 1) (nx :: wl) := Ext.new hi' rfl hp1
                  have e2 : Ext h1 (nx + 1) (nx :: wl) h2 (nx + 2) ((nx + 1) :: nx :: wl) := Ext.new e1.inv rfl hp2
                  obtain ⟨e3, ⟨t', hCT⟩, hcall⟩ := hFn _ _ _ _ _ _ _ _ hF e2.inv
                  have e3' := e3.more (wl := (nx + 1) :: nx :: wl)
                  have e4 := Ext.set (wl := wl3 ++ ((nx + 1) :: nx :: wl)) (a := true) (b := .lp ⟨.exhausted, pe, N1, ts1, ps1, ag1, bd1, D1⟩) e3.inv hl3 (fun h => h) (.inr rfl) hp4
                  have eAll := ((e1.trans e2).trans e3').trans e4
                  have g2n : h2.get (nx + 1) = some (true, .lp ⟨.ready, none, N, t.list (fun k => k) [], ps, ag, bd, nx⟩) := by rw [T.get_put _ _ _ _ _ (nx + 1) hp2, if_pos rfl]
                  have eBack : Ext h2 (nx + 2) [] h4 nx3 ((nx + 1) :: wl3) := e3.trans (Ext.set (wl := wl3) (a := true) (b := .lp ⟨.exhausted, pe, N1, ts1, ps1, ag1, bd1, D1⟩) e3.inv hl3 (fun h => h) (.inr rfl) hp4)
                  have s1 : upd (lk t h0) (wsNew nx .df) = lk t h1 := (lk_put hp1).symm
                  have s2 : upd (lk t h1) (wsNew (nx + 1) (.lp ⟨.ready, none, N, t.list (fun k => k) [], ps, ag, bd, nx⟩)) = lk t h2 := (lk_put hp2).symm
                  have s4 : upd (lk t' h3) [(.b (nx + 1), .b (.lp ⟨.exhausted, pe, N1, ts1, ps1, ag1, bd1, D1⟩))] = lk t' h4 := (lk_putB hl3 hp4).symm
                  have hle := e3.le
                  have main : ∀ (c : Ctx) (F : Fence) (nn : Nat) (Q : Exit → Act → World → Prop), c.P = P → FOk F false → c.N = N → c.fm = fm → (∀ n, nx ≤ n → n < nx3 → ¬ c.gv n) →
                      (match (generalizing := false) pe with
                        | none => KW { c with fm := nx :: c.fm } (Q .normal) (lk t h4)
                        | some j => CW { c with fm := nx :: c.fm } F nn j Q (lk t h4)) → CW c F nn (.rangeFunc g ps ag bd) Q (lk t h0) := by
                    intro c F nn Q hP hFO hN hfmc hgv hK
                    subst hP
                    refine CW_rangeOuter (v := v) (nD := nx) (nL := nx + 1) (lo := nx + 2) (hi := nx3) (ts := t.list (fun k => k) []) (h' := lk t' h3) (r' := ⟨st, pe, N1, ts1, ps1, ag1, bd1, D1⟩) hFO.w (hFO.o rfl) hcall hg (fun q hq => lv_eq (List.all_eq_true.1 hca q hq)) (fun i v hv => ?_) (hgv nx (Nat.le_refl _) (by omega)) (lk_l0.2 (hi' nx (Nat.le_refl _))) (hgv (nx + 1) (by omega) (by omega)) (lk_l0.2 (hi' (nx + 1) (by omega))) (by omega) ?_ ?_ (lk_l.2 ⟨_, hl3⟩) (lk_b.2 ⟨_, hl3⟩) (fun hb => ?_) ?_
                    · rcases T.list_mem hv with ⟨k, h5, h6⟩ | h5
                      · have h5 : k = i := h5
                        exact lk_t.2 (h5 ▸ h6)
                      · cases h5
                    · unfold loop0
                      rw [hN, s1, s2, hp_lk]; exact hCT
                    · unfold loop0
                      rw [hN, s1, s2]
                      show BackOk _ _ _ _ (upd (lk t' h3) [(.b (nx + 1), .b (.lp ⟨.exhausted, pe, N1, ts1, ps1, ag1, bd1, D1⟩))])
                      rw [s4]
                      refine ⟨fun n a b => hgv n (by omega) b, fun n hn => lk_l0.2 (e2.inv n hn), fun n hn hb => ?_, fun n hn => ?_, fun n hn h => eBack.al n (fun h6 => hn (lk_l0.2 h6)) (lk_l0.1 h)⟩
                      · obtain ⟨b, hb⟩ := lk_l.1 hb
                        obtain ⟨b0, h5⟩ := eBack.rev n hn b hb
                        exact lk_l.2 ⟨b0, h5⟩
                      · have hn : n ∈ nx :: fm := by rw [← hfmc]; exact hn
                        have := List.all_eq_true.1 hfm n hn
                        split at this
                        · rename_i hg4; exact ⟨lk_l.2 ⟨_, hg4⟩, lk_b.2 ⟨_, hg4⟩⟩
                        · cases this
                    · have hb : st = .busy := hb
                      subst hb
                      cases hst
                    · show (match (generalizing := false) pe with
                        | none => KW { c with fm := nx :: c.fm } (Q .normal) (mix (lk t h0) (upd (lk t' h3) [(.b (nx + 1), .b (.lp ⟨.exhausted, pe, N1, ts1, ps1, ag1, bd1, D1⟩))]))
                        | some j => CW { c with fm := nx :: c.fm } F nn j Q (mix (lk t h0) (upd (lk t' h3) [(.b (nx + 1), .b (.lp ⟨.exhausted, pe, N1, ts1, ps1, ag1, bd1, D1⟩))])))
                      rw [s4, mix_lk]; exact hK
                  split at h
                  · cases h
                    exact ⟨eAll, fun c F nn Q hP hFO hN hfmc hgv hK => main c F nn Q hP hFO hN hfmc hgv (by have hfmc : c.fm = fm := hfmc; rw [hfmc]; exact hK)⟩
                  · rename_i j
                    obtain ⟨k1, k2⟩ := hC _ _ _ _ _ _ h eAll.inv
                    refine ⟨eAll.trans k1, fun c F nn Q hP hFO hN hfmc hgv hK => main c F nn Q hP hFO hN hfmc (fun n a b => hgv n a (Nat.lt_of_lt_of_le b k1.le)) ?_⟩
                    have hfmc : c.fm = fm := hfmc
                    refine k2 { c with fm := nx :: c.fm } F nn Q hP hFO hN (by show nx :: c.fm = nx :: fm; rw [hfmc]) (fun n a b => hgv n (Nat.le_trans (by show nx ≤ nx3; omega) a) b) hK
                · cases h
              · cases h
            · cases h
          · cases h
        · cases h
      · cases h
    · cases h
  · cases h
def codeE (R : Rec) (P : Program) (N : Nat) (ro : Bool) (code : Code) (S : ES) : Option (XT × ES) := match code with
  | .skip => some (.normal, S)
  | .label _ => some (.normal, S)
  | .ret => some (.ret, S)
  | .exit k => some (.exit k, S)
  | .seq a b => match R.C N ro a S with
    | some (.normal, S1) => R.C N ro b S1
    | r => r
  | .cond x a b => match opv S.s x with
    | some (.c (.v (.bool true))) => R.C N ro a S
    | some (.c (.v (.bool false))) => R.C N ro b S
    | _ => none
  | .block k a => match R.C N ro a S with
    | some (.exit j, S1) => bif Nat.beq j k then some (.normal, S1) else some (.exit j, S1)
    | r => r
  | .scope a => R.C N ro a S
  | .loop a => loopE R N ro a 1000000 S
  | .region _ ops draw => regionE R P N ops draw S
  | .rangeFunc g ps ag bd => match ro with
    | true => none
    | false => rangeE R N g ps ag bd S
  | _ => none
theorem codeE_ok {P : Program} {R : Rec} (hX : SoundX P R.X) (hC : SoundC P R) (hFn : SoundF P R) {N : Nat} {ro : Bool} {code : Code} {S S' : ES} {xt : XT} (h : codeE R P N ro code S = some (xt, S')) (hi : S.Inv) : OkC P N ro code S xt S' := by
  cases code with
  | skip =>
    simp only [codeE, Option.some.injEq, Prod.mk.injEq] at h; obtain ⟨rfl, rfl⟩ := h
    exact ⟨.refl hi, fun c F nn Q _ _ _ hfm _ hK => CW_skip (by rw [Ctx.fm_eq hfm] at hK; exact hK)⟩
  | label l =>
    simp only [codeE, Option.some.injEq, Prod.mk.injEq] at h; obtain ⟨rfl, rfl⟩ := h
    exact ⟨.refl hi, fun c F nn Q _ _ _ hfm _ hK => CW_label (by rw [Ctx.fm_eq hfm] at hK; exact hK)⟩
  | ret =>
    simp only [codeE, Option.some.injEq, Prod.mk.injEq] at h; obtain ⟨rfl, rfl⟩ := h
    exact ⟨.refl hi, fun c F nn Q _ _ _ hfm _ hK => CW_ret (by rw [Ctx.fm_eq hfm] at hK; exact hK)⟩
  | exit k =>
    simp only [codeE, Option.some.injEq, Prod.mk.injEq] at h; obtain ⟨rfl, rfl⟩ := h
    exact ⟨.refl hi, fun c F nn Q _ _ _ hfm _ hK => CW_exit (by rw [Ctx.fm_eq hfm] at hK; exact hK)⟩
  | seq a b =>
    simp only [codeE] at h
    split at h
    · rename_i S1 h1
      obtain ⟨g1, g2⟩ := hC _ _ _ _ _ _ h1 hi
      obtain ⟨k1, k2⟩ := hC _ _ _ _ _ _ h g1.inv
      refine ⟨g1.trans k1, fun c F nn Q hP hF hN hfm hgv hK => CW_seq (g2 c F nn _ hP hF hN hfm (fun n x y => hgv n x (Nat.lt_of_lt_of_le y k1.le)) ?_)⟩
      have := k2 { c with fm := S1.fm } F nn Q hP hF hN rfl (fun n x y => hgv n (Nat.le_trans g1.le x) y) hK
      exact ⟨this.go⟩
    · rename_i hne
      obtain ⟨g1, g2⟩ := hC _ _ _ _ _ _ h hi
      refine ⟨g1, fun c F nn Q hP hF hN hfm hgv hK => CW_seq (g2 c F nn _ hP hF hN hfm hgv ?_)⟩
      cases xt with
      | normal => exact absurd h (hne _)
      | ret => exact hK
      | exit k => exact hK
  | cond x a b =>
    simp only [codeE] at h
    split at h
    · rename_i hx
      obtain ⟨g1, g2⟩ := hC _ _ _ _ _ _ h hi
      exact ⟨g1, fun c F nn Q hP hF hN hfm hgv hK => CW_yes hx (g2 c F nn Q hP hF hN hfm hgv hK)⟩
    · rename_i hx
      obtain ⟨g1, g2⟩ := hC _ _ _ _ _ _ h hi
      exact ⟨g1, fun c F nn Q hP hF hN hfm hgv hK => CW_no hx (g2 c F nn Q hP hF hN hfm hgv hK)⟩
    · cases h
  | block k a =>
    simp only [codeE] at h
    split at h
    · rename_i j S1 h1
      obtain ⟨g1, g2⟩ := hC _ _ _ _ _ _ h1 hi
      cases hb : Nat.beq j k with
      | true =>
        rw [hb, cond_true] at h
        cases h
        refine ⟨g1, fun c F nn Q hP hF hN hfm hgv hK => CW_block (g2 c F nn _ hP hF hN hfm hgv ⟨fun e a w hR => ?_⟩)⟩
        show (if j = k then Q .normal a w else Q (.exit j) a w)
        rw [if_pos (Nat.eq_of_beq_eq_true hb)]; exact hK.go e a w hR
      | false =>
        rw [hb, cond_false] at h
        cases h
        refine ⟨g1, fun c F nn Q hP hF hN hfm hgv hK => CW_block (g2 c F nn _ hP hF hN hfm hgv ⟨fun e a w hR => ?_⟩)⟩
        show (if j = k then Q .normal a w else Q (.exit j) a w)
        rw [if_neg (fun e => by subst e; simp at hb)]; exact hK.go e a w hR
    · rename_i hne
      obtain ⟨g1, g2⟩ := hC _ _ _ _ _ _ h hi
      refine ⟨g1, fun c F nn Q hP hF hN hfm hgv hK => CW_block (g2 c F nn _ hP hF hN hfm hgv ?_)⟩
      cases xt with
      | normal => exact hK
      | ret => exact hK
      | exit j => exact absurd h (hne _ _)
  | scope a =>
    simp only [codeE] at h
    obtain ⟨g1, g2⟩ := hC _ _ _ _ _ _ h hi
    refine ⟨g1, fun c F nn Q hP hF hN hfm hgv hK => CW_scope (g2 c F nn _ hP hF hN hfm hgv ?_)⟩
    cases xt <;> exact hK
  | loop a =>
    simp only [codeE] at h
    obtain ⟨g1, g2⟩ := loopE_ok hC h hi
    exact ⟨g1, fun c F nn Q hP hF hN hfm hgv hK => CW_rounds _ (g2 c F nn Q hP hF hN hfm hgv hK)⟩
  | region id ops draw => exact regionE_ok hX hC hFn h hi
  | rangeFunc g ps ag bd =>
    cases ro with
    | true => cases h
    | false => exact rangeE_ok hC hFn h hi
  | goto l => cases h
  | refuse s => cases h
/-- The slots in which a function begins. -/
def argT : List V → Nat → T V → Option (T V)
  | [], _, t => some t
  | v :: r, i, t => match fcV v, fcN (i + 1) with
    | some v', some j => match T.put 40 t i v' with
      | some t' => argT r j t'
      | none => none
    | _, _ => none
theorem argT_get : ∀ {l : List V} {i : Nat} {t t' : T V}, argT l i t = some t' → ∀ j, t'.get j = if i ≤ j ∧ j < i + l.length then l[j - i]? else t.get j
  | [], i, t, t', h, j => by cases h; rw [if_neg (by simp)]
  | v :: r, i, t, t', h, j => by
    simp only [argT] at h
    split at h
    · rename_i v' k hv hk
      obtain rfl := fcN_eq hk
      obtain rfl := fcV_eq hv
      split at h
      · rename_i t1 h1
        rw [argT_get h j, T.get_put _ _ _ _ _ j h1]
        by_cases h2 : i = j
        · subst h2; rw [if_neg (by omega), if_pos rfl, if_pos (by simp)]; simp
        · by_cases h3 : i + 1 ≤ j ∧ j < i + 1 + r.length
          · rw [if_pos h3, if_pos (by simp; omega), show j - i = (j - (i + 1)) + 1 by omega, List.getElem?_cons_succ]
          · rw [if_neg h3, if_neg h2, if_neg (by simp; omega)]
      · cases h
    · cases h
def nodupB : List Nat → Bool
  | [] => true
  | n :: l => !inB l n && nodupB l
theorem nodupB_ok : ∀ {l : List Nat}, nodupB l = true → l.Nodup
  | [], _ => List.nodup_nil
  | n :: l, h => by
    simp only [nodupB, Bool.and_eq_true, Bool.not_eq_true'] at h
    exact List.nodup_cons.2 ⟨inB_no.1 h.1, nodupB_ok h.2⟩
def funE (R : Rec) (P : Program) (f : FuncId) (args : List V) (h : Hp) (nx : Nat) : Option (V × Hp × Nat × List Nat) := match P.funcs[f]? with
  | some fn => match fn.body with
    | some code => match Nat.ble args.length fn.ntmps, argT args 0 .e with
      | true, some t => match R.C fn.ntmps false code ⟨t, h, nx, [], []⟩ with
        | some (xt, ⟨t1, h1, nx1, wl1, fm1⟩) => match (match xt with | .exit _ => false | _ => true), nodupB fm1, maskT h1 fm1 with
          | true, true, some h2 => match resL P (lk t1 h2) fn.results.toList with
            | some vs => match tupC vs with
              | some v => some (v, h2, nx1, fm1 ++ wl1)
              | none => none
            | none => none
          | _, _, _ => none
        | none => none
      | _, _ => none
    | none => none
  | none => none
/-- Functions are entered. -/
def Enters (P : Program) : Prop := ∀ f fn code, P.funcs[f]? = some fn → fn.body = some code → ∀ args w, (callFunc f args).run P w = .ok (.enter f args) w
theorem funE_ok {P : Program} (hE : Enters P) {R : Rec} (hC : SoundC P R) {f : FuncId} {args : List V} {h h' : Hp} {nx nx' : Nat} {v : V} {wl : List Nat} (hh : funE R P f args h nx = some (v, h', nx', wl)) (hi : ∀ n, nx ≤ n → h.get n = none) :
    Ext h nx [] h' nx' wl ∧ (∃ t', CT P f args (lk .e h) nx nx' v (lk t' h')) ∧ ∀ args w, (callFunc f args).run P w = .ok (.enter f args) w := by
  unfold funE at hh
  split at hh
  · rename_i fn hf
    split at hh
    · rename_i code hb
      split at hh
      · rename_i t hle ht
        split at hh
        · rename_i xt t1 h1 nx1 wl1 fm1 hR
          split at hh
          · rename_i h2 hxt hnd hmk
            split at hh
            · rename_i vs hvs
              split at hh
              · rename_i v' hv
                cases hh
                obtain ⟨g1, g2⟩ := hC _ _ _ _ _ _ hR hi
                have g1 : Ext h nx [] h1 nx' wl1 := g1
                have gm := maskT_get hmk
                have e2 : Ext h1 nx' wl1 h' nx' (fm1 ++ wl1) := by
                  refine ⟨Nat.le_refl _, fun n hn => ?_, fun n hn => ?_, fun n hn b hb => ?_, fun n l b hb => ?_, fun n hn => List.mem_append.2 (.inr hn), fun n hn => ?_⟩
                  · rw [gm]; split
                    · rw [g1.inv n hn]
                    · exact g1.inv n hn
                  · rw [gm]; split
                    · cases hy : h1.get n with
                      | none => exact absurd hy hn
                      | some p => simp
                    · exact hn
                  · rw [gm] at hb; split at hb
                    · split at hb <;> cases hb
                    · exact ⟨b, hb⟩
                  · rw [gm] at hb; split at hb
                    · split at hb
                      · rename_i hq; cases hb; exact .inl ⟨_, hq⟩
                      · cases hb
                    · exact .inl ⟨l, hb⟩
                  · rw [gm, if_neg (fun h => hn (List.mem_append.2 (.inl h)))]
                have hkill : killM (lk t1 h1) fm1 = lk t1 h' := by
                  have sub : ∀ {X : List Nat} {a b : Hp}, maskT a X = some b → ∀ n ∈ X, ∃ l x, a.get n = some (l, x) := by
                    intro X
                    induction X with
                    | nil => intro a b _ n hn; cases hn
                    | cons k X ih =>
                      intro a b hab n hn
                      simp only [maskT] at hab
                      split at hab
                      · rename_i l x hk
                        split at hab
                        · rename_i a1 ha1
                          rcases List.mem_cons.1 hn with rfl | hn
                          · exact ⟨_, _, hk⟩
                          · obtain ⟨l2, x2, h5⟩ := ih hab n hn
                            rw [T.get_put _ _ _ _ _ n ha1] at h5
                            split at h5
                            · rename_i e; subst e; exact ⟨_, _, hk⟩
                            · exact ⟨_, _, h5⟩
                        · cases hab
                      · cases hab
                  funext q
                  cases q with
                  | t i => rw [killM_t]; rfl
                  | b n =>
                    rw [killM_b]
                    simp only [lk]
                    rw [gm]
                    split
                    · rename_i a b hg
                      by_cases hn : n ∈ fm1 <;> simp [hn, hg]
                    · rename_i hg
                      by_cases hn : n ∈ fm1 <;> simp [hn, hg]
                  | l n =>
                    rw [killM_l]
                    simp only [lk]
                    rw [gm]
                    by_cases hn : n ∈ fm1
                    · obtain ⟨l2, x2, h5⟩ := sub hmk n hn
                      simp [hn, h5]
                    · rw [if_neg hn, if_neg hn]
                refine ⟨g1.trans e2, ⟨t1, CT.enter hf hb (by simpa using hle) fun c R' hP hgv hN hfm hret => ?_⟩, hE f fn code hf hb⟩
                have harg : argS args (lk .e h) = lk t h := by
                  funext q
                  cases q with
                  | t i =>
                    simp only [argS, lk]
                    rw [argT_get ht i]
                    by_cases hl : i < args.length
                    · rw [if_pos (by omega)]; simp only [Nat.sub_zero]
                      cases args[i]? <;> rfl
                    · rw [if_neg (by omega), List.getElem?_eq_none (by omega)]; rfl
                  | b n => rfl
                  | l n => rfl
                rw [harg]
                refine g2 c Fence.wide 0 _ hP fok_wide hN hfm hgv ?_
                refine KW_leave (c := { c with fm := fm1 }) (v := v) ?_ hP (nodupB_ok hnd) ?_ hv ?_
                · cases xt with
                  | normal => exact .inr rfl
                  | ret => exact .inl rfl
                  | exit k => cases hxt
                · show resL P (killM (lk t1 h1) fm1) _ = _
                  rw [hkill]; exact hvs
                · intro e u w hW hu hn
                  have hk2 : killM (ES.s ⟨t1, h1, nx', wl1, fm1⟩) fm1 = lk t1 h' := hkill
                  rw [show killM (ES.s ⟨t1, h1, nx', wl1, fm1⟩) ({ c with fm := fm1 } : Ctx).fm = lk t1 h' from hkill] at hW hu hn
                  exact hret e u w ⟨hW.blk, hW.sep, hW.own, hW.cl, hW.given, hW.os, hW.tape, hW.output, hW.size, hW.old⟩ hu hn
              · cases hh
            · cases hh
          · cases hh
        · cases hh
      · cases hh
    · cases hh
  · cases hh
def ev (P : Program) (X : FuncId → Option (List Value → Option (List Value))) (n : Nat) : Rec :=
  Nat.rec ⟨X, fun _ _ _ _ => none, fun _ _ _ _ => none⟩ (fun _ R => ⟨X, fun N ro code S => codeE R P N ro code S, fun g args h nx => funE R P g args h nx⟩) n
theorem ev_X {P : Program} {X : FuncId → Option (List Value → Option (List Value))} : ∀ f, (ev P X f).X = X
  | 0 => rfl
  | f + 1 => rfl
theorem ev_ok {P : Program} {X : FuncId → Option (List Value → Option (List Value))} (hE : Enters P) (hX : SoundX P X) : ∀ f, SoundC P (ev P X f) ∧ SoundF P (ev P X f)
  | 0 => ⟨fun _ _ _ _ _ _ h => (by cases h), fun _ _ _ _ _ _ _ _ h => (by cases h)⟩
  | f + 1 => ⟨fun _ _ _ _ _ _ h hi => codeE_ok (by rw [ev_X]; exact hX) (ev_ok hE hX f).1 (ev_ok hE hX f).2 h hi, fun _ _ _ _ _ _ _ _ h hi => funE_ok hE (ev_ok hE hX f).1 h hi⟩
/-- The values that are handed in, plain. -/
def plainA : List Value → List V
  | [] => []
  | x :: r => .c (.v x) :: plainA r
theorem plainA_ok {s : Sf} {e : Env} : ∀ (us : List Value), OkVs s e (plainA us) us
  | [] => rfl
  | x :: r => ⟨x, r, rfl, fun _ => rfl, plainA_ok r⟩
theorem plainA_names : ∀ {us : List Value} {v : V}, v ∈ plainA us → v.names = []
  | [], v, h => by cases h
  | x :: r, v, h => by
    rcases List.mem_cons.1 h with rfl | h
    · rfl
    · exact plainA_names h
/-- What the reckoner says of a call of plain values. -/
theorem calls_of_ev {P : Program} {X : FuncId → Option (List Value → Option (List Value))} (hE : Enters P) (hX : SoundX P X) {fuel : Nat} {f : FuncId} {us : List Value} {v : V} {h' : Hp} {nx' : Nat} {wl : List Nat} (h : (ev P X fuel).F f (plainA us) .e 0 = some (v, h', nx', wl)) (w : World) :
    Calls P f us.toArray w fun en w' => ∃ (c : Ctx) (t' : T V) (u : Value) (e' : Env), c.P = P ∧ c.w0 = w ∧ (∀ k, ¬ c.tch k) ∧ en = .returned u ∧ OkV (lk t' h') e' v u ∧ RealW c (lk t' h') e' w' := by
  obtain ⟨_, ⟨t', hct⟩, _⟩ := (ev_ok hE hX fuel).2 _ _ _ _ _ _ _ _ h (fun _ _ => rfl)
  have := hct ⟨P, w, fun _ => False, fun _ => False, ⟨fun _ => 0, fun _ => 0, fun _ => 0⟩, 0, []⟩ ⟨fun _ => 0, fun _ => 0, fun _ => 0⟩ w us rfl (fun _ _ _ h => h)
    ⟨fun n b h => by simp [lk, T.get_e] at h, fun n n' b b' h => by simp [lk, T.get_e] at h, fun n b h => by simp [lk, T.get_e] at h, ⟨fun q x h => by cases q <;> simp [lk, T.get_e] at h, fun n h => by simp [lk, T.get_e] at h⟩, fun _ h => h.elim, rfl, rfl, rfl, Nat.le_refl _, fun _ _ _ => rfl⟩
    (plainA_ok us) (fun v hv n hn => by rw [plainA_names hv] at hn; cases hn)
  refine this.mono ?_
  rintro en w' ⟨u, e', rfl, h1, h2, _⟩
  exact ⟨_, t', u, e', rfl, rfl, fun _ h => h, rfl, h2, h1⟩
theorem RealW.below {c : Ctx} {s : Sf} {e : Env} {w : World} (h : RealW c s e w) (ht : ∀ k, ¬ c.tch k) : Below c.w0.heap.size c.w0 w := ⟨h.os, h.tape, h.output, h.size, fun k hk => h.old k hk (ht k)⟩
/-- .. that yields a plain value. -/
theorem calls_plain {P : Program} {X : FuncId → Option (List Value → Option (List Value))} (hE : Enters P) (hX : SoundX P X) {fuel : Nat} {f : FuncId} {us : List Value} {x : Value} (h : (match (ev P X fuel).F f (plainA us) .e 0 with
    | some (.c (.v y), _) => some y
    | _ => none) = some x) (w : World) : Calls P f us.toArray w fun en w' => en = .returned x ∧ Below w.heap.size w w' := by
  split at h
  · rename_i y r hr
    cases h
    obtain ⟨h', nx', wl⟩ := r
    refine (calls_of_ev hE hX hr w).mono ?_
    rintro en w' ⟨c, t', u, e', hP, hw, ht, rfl, hu, hW⟩
    subst hw
    exact ⟨by rw [show u = x from Ok.plain hu], hW.below ht⟩
  · cases h
/-- None of them. -/
def noX : FuncId → Option (List Value → Option (List Value)) := fun _ => none
theorem noX_ok {P : Program} : SoundX P noX := fun _ _ _ _ h => by cases h
/-- Names that are not the runtime's own. -/
theorem enters_of {P : Program} (h : (P.funcs.toList.all fun fn => !(fn.name == "runtime.NumGoroutine")) = true) : Enters P := by
  intro f fn code hf hb args w
  have hm : fn ∈ P.funcs.toList := by
    have := Array.getElem?_eq_some_iff.1 hf
    obtain ⟨h1, h2⟩ := this
    rw [← h2]; simp
  have hn := List.all_eq_true.1 h fn hm
  have hn : fn.name ≠ "runtime.NumGoroutine" := by simpa using hn
  simp [callFunc, go_sem, hf, hb, hn]
end
end Go.Proofs.Ytgjbhocahpplbaa.EV
