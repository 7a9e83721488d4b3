/- Rounds, reckoned. No program in sight. -/
import Derived.Test.YtgjbhocahpplbaaEvM
namespace Go.Proofs.Ytgjbhocahpplbaa.EV
noncomputable section
open Go.RowKit

theorem T.mem_list {α : Type} : ∀ {t : T α} {g : Nat → Nat} {r : List (Nat × α)} {k : Nat} {x : α}, (t.get k = some x → (g k, x) ∈ t.list g r) ∧ (∀ y, y ∈ r → y ∈ t.list g r)
  | .e, g, r, k, x => ⟨fun h => (by cases h), fun y h => h⟩
  | .n v l m, g, r, k, x => by
    have hr : ∀ y, y ∈ r → y ∈ l.list (fun k => g (2 * k + 1)) (m.list (fun k => g (2 * k + 2)) r) := fun y hy => (T.mem_list (k := 0) (x := x)).2 y ((T.mem_list (k := 0) (x := x)).2 y hy)
    have wrap : ∀ y, y ∈ l.list (fun k => g (2 * k + 1)) (m.list (fun k => g (2 * k + 2)) r) → y ∈ (T.n v l m).list g r := fun y hy => by
      simp only [T.list]; split
      · exact List.mem_cons_of_mem _ hy
      · exact hy
    refine ⟨fun h => ?_, fun y hy => wrap y (hr y hy)⟩
    cases k with
    | zero =>
      simp only [T.get_e, T.get_n0, T.get_ns] at h; subst h
      simp [T.list]
    | succ k =>
      simp only [T.get_e, T.get_n0, T.get_ns] at h
      refine wrap _ ?_
      cases hb : Nat.beq (k % 2) 0 with
      | true =>
        rw [hb, cond_true] at h
        have h1 := Nat.eq_of_beq_eq_true hb
        have := (T.mem_list (t := l) (g := fun k => g (2 * k + 1)) (r := m.list (fun k => g (2 * k + 2)) r)).1 h
        rwa [show 2 * (k / 2) + 1 = k + 1 by omega] at this
      | false =>
        rw [hb, cond_false] at h
        have h1 : k % 2 ≠ 0 := fun e => by rw [e] at hb; cases hb
        have := (T.mem_list (t := m) (g := fun k => g (2 * k + 2)) (r := r)).1 h
        rw [show 2 * (k / 2) + 2 = k + 1 by omega] at this
        exact (T.mem_list (t := l) (k := 0) (x := x)).2 _ this
theorem assoc_some : ∀ {l : List (Nat × V)} {i : Nat} {v : V}, (i, v) ∈ l → ∃ w, assoc l i = some w
  | (k, x) :: r, i, v, h => by
    simp only [assoc]
    cases hk : Nat.beq k i with
    | true => exact ⟨x, rfl⟩
    | false =>
      rcases List.mem_cons.1 h with h | h
      · cases h; simp at hk
      · exact assoc_some h
theorem assoc_list (t : T V) (i : Nat) : assoc (t.list (fun k => k) []) i = t.get i := by
  cases h : t.get i with
  | some v =>
    obtain ⟨w, hw⟩ := assoc_some (((T.mem_list (t := t) (g := fun k => k) (r := [])).1 h))
    have := assoc_mem hw
    rcases T.list_mem this with ⟨k, h1, h2⟩ | h1
    · rw [hw, ← h, ← h2, ← h1]
    · cases h1
  | none =>
    cases hw : assoc (t.list (fun k => k) []) i with
    | none => rfl
    | some w =>
      rcases T.list_mem (assoc_mem hw) with ⟨k, h1, h2⟩ | h1
      · have h1 : k = i := h1
        rw [h1, h] at h2; cases h2
      · cases h1
def putAll : List (Nat × V) → T V → Option (T V)
  | [], t => some t
  | (i, v) :: r, t => match T.put 40 t i v with
    | some t' => putAll r t'
    | none => none
theorem putAll_get : ∀ {l : List (Nat × V)} {t t' : T V}, putAll l t = some t' → ∀ {i : Nat} {v : V}, t'.get i = some v → (i, v) ∈ l ∨ t.get i = some v
  | [], t, t', h, i, v, hv => by cases h; exact .inr hv
  | (k, x) :: r, t, t', h, i, v, hv => by
    simp only [putAll] at h
    split at h
    · rename_i t1 h1
      rcases putAll_get h hv with h2 | h2
      · exact .inl (List.mem_cons_of_mem _ h2)
      · rw [T.get_put _ _ _ _ _ i h1] at h2
        split at h2
        · rename_i e; subst e; cases h2; exact .inl List.mem_cons_self
        · exact .inr h2
    · cases h
section
variable {s : Sf} {e : Env}
def Told (s : Sf) (e : Env) (t : T V) (tm : Array Value) : Prop := ∀ i v, t.get i = some v → ∃ u, tm[i]? = some u ∧ OkV s e v u
theorem zip_ok : ∀ {ps : List Tmp} {vs : List V} {us : List Value} {t t' : T V} {tm : Array Value}, OkVs s e vs us → (∀ p ∈ ps, p < tm.size) → putAll (ps.zip vs) t = some t' → Told s e t tm →
    ((ps.zip us).foldl (fun t (p, v) => t.setIfInBounds p v) tm).size = tm.size ∧ Told s e t' ((ps.zip us).foldl (fun t (p, v) => t.setIfInBounds p v) tm)
  | [], vs, us, t, t', tm, _, _, h, ht => by simp only [List.zip_nil_left, putAll, Option.some.injEq] at h; subst h; exact ⟨rfl, ht⟩
  | p :: ps, [], us, t, t', tm, hv, _, h, ht => by
    obtain rfl : us = [] := hv
    simp only [List.zip_nil_right, putAll, Option.some.injEq] at h; subst h; exact ⟨rfl, ht⟩
  | p :: ps, v :: vs, _, t, t', tm, ⟨u, r, rfl, h1, h2⟩, hp, h, ht => by
    simp only [List.zip_cons_cons, putAll] at h
    split at h
    · rename_i t1 hp1
      have hp0 : p < tm.size := hp p List.mem_cons_self
      obtain ⟨g1, g2⟩ := zip_ok (tm := tm.setIfInBounds p u) h2 (fun q hq => by simpa using hp q (List.mem_cons_of_mem _ hq)) h (fun i x hx => by
        rw [T.get_put _ _ _ _ _ i hp1] at hx
        rw [Array.getElem?_setIfInBounds]
        split at hx
        · rename_i e; subst e; cases hx; exact ⟨u, by simp [hp0], h1⟩
        · rename_i hne; rw [if_neg hne]; exact ht i x hx)
      exact ⟨by rw [List.zip_cons_cons, List.foldl_cons, g1]; simp, g2⟩
    · cases h
end
theorem Ext.more {h h' : Hp} {nx nx' : Nat} {wl wl' : List Nat} (a : Ext h nx [] h' nx' wl') : Ext h nx wl h' nx' (wl' ++ wl) :=
  ⟨a.le, a.inv, a.al, a.rev, a.own, fun _ hn => List.mem_append.2 (.inr hn), fun n hn => a.un n fun h => hn (List.mem_append.2 (.inl h))⟩
theorem lk_putB {t : T V} {h h' : Hp} {n : Nat} {b b0 : B} (h0 : h.get n = some (true, b0)) (hh : T.put 40 h n (true, b) = some h') : lk t h' = upd (lk t h) [(.b n, .b b)] := by
  rw [lk_put hh, upd_same (lk_l.2 ⟨_, h0⟩) _ (by simp [lookW, Key.beq])]
theorem hp_lk {t : T V} {h : Hp} : hp (lk t h) = lk .e h := by funext q; cases q <;> rfl
theorem mix_lk {t t' : T V} {h h' : Hp} : mix (lk t h) (lk t' h') = lk t h' := by funext q; cases q <;> rfl
theorem Ctx.fm_eq {c : Ctx} {l : List Nat} (h : c.fm = l) : ({ c with fm := l } : Ctx) = c := by cases c; cases h; rfl
/-- One round. -/
def yieldE (R : Rec) (S : ES) (d : Option Tmp) (xs : List Operand) (l : Nat) : Option (Tr × ES) := match S with
  | ⟨t, h, nx, wl, fm⟩ => match h.get l, valsE (lk t h) xs with
    | some (true, .lp ⟨.ready, _, N, ts, ps, ag, bd, _⟩), some (vs, _) => match Nat.beq ps.size vs.length && (ps.toList.all (fun p => Nat.blt p N) && Nat.blt l nx), putAll ts .e with
      | true, some t0 => match putAll (ps.toList.zip vs) t0 with
        | some tt => match R.C N true ag ⟨tt, h, nx, [], []⟩ with
          | some (.normal, ⟨t1, h1, nx1, wl1, []⟩) => match h1.get l with
            | some (true, .lp ⟨.ready, pe1, N1, ts1, ps1, ag1, bd1, D1⟩) => match T.put 40 h1 l (true, .lp ⟨.busy, pe1, N1, ts1, ps1, ag1, bd1, D1⟩) with
              | some h1' => match R.C N true bd ⟨t1, h1', nx1, l :: wl1, []⟩ with
                | some (xt, ⟨_, h2, nx2, wl2, []⟩) => match h2.get l with
                  | some (true, .lp ⟨_, _, N2, ts2, ps2, ag2, bd2, D2⟩) => match T.put 40 h2 l (true, .lp ⟨if xt.jump.isNone then .ready else .done, xt.jump, N2, ts2, ps2, ag2, bd2, D2⟩) with
                    | some h3 => match fm.all (fun n => match h3.get n with | some (true, .df) => true | _ => false), putT t d (.c (.v (.bool xt.jump.isNone))) with
                      | true, some t' => some (⟨fun _ => true, putW d (.c (.v (.bool xt.jump.isNone))) ++ wsOf h3 (l :: wl2)⟩, ⟨t', h3, nx2, (l :: wl2) ++ wl, fm⟩)
                      | _, _ => none
                    | none => none
                  | _ => none
                | _ => none
              | none => none
            | _ => none
          | _ => none
        | none => none
      | _, _ => none
    | _, _ => none
theorem yieldE_ok {P : Program} {R : Rec} (hRc : SoundC P R) {S S' : ES} {d : Option Tmp} {x : Operand} {xs : List Operand} {l : Nat} {tr : Tr} (h : yieldE R S d xs l = some (tr, S')) (hi : S.Inv) (hx : opv S.s x = some (.c (.y l))) :
    Ext S.h S.nx S.wl S'.h S'.nx S'.wl ∧ S'.fm = S.fm ∧ S'.s = upd S.s tr.ws ∧ ∀ (c : Ctx) (F : Fence) (nn : Nat) (ro : Bool) (tys : Array TypeId) (rt : TypeId) (pos : String) (af : Array Edge) (g : Option (Nat × Bool)), c.P = P → FOk F ro → dOk c.N d = true → c.fm = S.fm → (∀ n, S.nx ≤ n → n < S'.nx → ¬ c.gv n) →
      LocalO c F nn ⟨d, .call ⟨.value x, xs.toArray, tys⟩, rt, pos, af, g⟩ S.s tr := by
  obtain ⟨t, h0, nx, wl, fm⟩ := S
  simp only [yieldE] at h
  split at h
  · rename_i pe N ts ps ag bd D vs ks hl hv
    split at h
    · rename_i t0 hchk ht0
      split at h
      · rename_i tt htt
        split at h
        · rename_i t1 h1 nx1 wl1 hA
          split at h
          · rename_i pe1 N1 ts1 ps1 ag1 bd1 D1 hl1
            split at h
            · rename_i h1' hp1
              split at h
              · rename_i xt t2 h2 nx2 wl2 hB
                split at h
                · rename_i st2 pe2 N2 ts2 ps2 ag2 bd2 D2 hl2
                  split at h
                  · rename_i h3 hp3
                    split at h
                    · rename_i t' hfm hpt
                      cases h
                      simp only [Bool.and_eq_true] at hchk
                      obtain ⟨hsz, hps, hlo⟩ := hchk
                      have hsz := Nat.eq_of_beq_eq_true hsz
                      have hlo : l < nx := by simpa using hlo
                      have hi' : ∀ n, nx ≤ n → h0.get n = none := hi
                      obtain ⟨eA, sA⟩ := hRc _ _ _ _ _ _ hA hi'
                      have eA : Ext h0 nx [] h1 nx1 wl1 := eA
                      have eS := Ext.set (wl := wl1) (a := true) (b := .lp ⟨.busy, pe1, N1, ts1, ps1, ag1, bd1, D1⟩) eA.inv hl1 (fun h => h) (.inr rfl) hp1
                      obtain ⟨eB, sB⟩ := hRc _ _ _ _ _ _ hB eS.inv
                      have eB : Ext h1' nx1 (l :: wl1) h2 nx2 wl2 := eB
                      have eT := Ext.set (wl := wl2) (a := true) (b := .lp ⟨if xt.jump.isNone then .ready else .done, xt.jump, N2, ts2, ps2, ag2, bd2, D2⟩) eB.inv hl2 (fun h => h) (.inr rfl) hp3
                      have eAll : Ext h0 nx [] h3 nx2 (l :: wl2) := ((eA.trans eS).trans eB).trans eT
                      have hs3 : lk t h3 = upd (lk t h0) (wsOf h3 (l :: wl2)) := wsOf_lk eAll.un eAll.al
                      refine ⟨eAll.more, rfl, ?_, fun c F nn ro tys rt pos af g hP hFO hN hfmc hgv => ?_⟩
                      · show lk t' h3 = upd (lk t h0) _
                        rw [putT_lk hpt, hs3, ← upd_append]
                      · intro hcl Q s e a w K hag hR hK
                        obtain rfl : s = lk t h0 := funext fun q => hag q rfl
                        subst hP
                        have hV := valsE_ok hv
                        have hle1 := eA.le
                        have hle2 := eB.le
                        have hgv : ∀ n, nx ≤ n → n < nx2 → ¬ c.gv n := hgv
                        have hround : roundS (tt.list (fun k => k) []) (hp (lk t h0)) = lk tt h0 := by
                          funext q
                          cases q with
                          | t i =>
                            simp only [roundS, assoc_list, lk]
                            cases tt.get i <;> rfl
                          | b n => rfl
                          | l n => rfl
                        have hb3 : upd (hp (lk t2 h2)) [(.b l, .b (.lp ⟨if xt.jump.isNone then .ready else .done, xt.jump, N2, ts2, ps2, ag2, bd2, D2⟩))] = lk .e h3 := by
                          rw [hp_lk, ← lk_putB hl2 hp3]
                        refine wpIn_yield (lo := nx) (hi := nx2) (σ1 := lk t1 h1) (σ2 := lk t2 h2) (ts := tt.list (fun k => k) []) (r1 := ⟨.ready, pe1, N1, ts1, ps1, ag1, bd1, D1⟩) (r2 := ⟨st2, pe2, N2, ts2, ps2, ag2, bd2, D2⟩) (xt := xt.ex) (pe := xt.jump) hFO.w hFO.r hR hx (lk_l.2 ⟨_, hl⟩) (lk_b.2 ⟨_, hl⟩) rfl hV hN hlo (fun n hn => lk_l0.2 (hi' n hn)) ?_ hsz ?_ (lk_l.2 ⟨_, hl1⟩) (lk_b.2 ⟨_, hl1⟩) rfl ?_ (lk_l.2 ⟨_, hl2⟩) (lk_b.2 ⟨_, hl2⟩) xt.jump_ok ?_ ?_
                        · intro us tm hus htm htold
                          have hN2 : ∀ p ∈ ps.toList, p < tm.size := fun p hp => by
                            rw [htm]; simpa using List.all_eq_true.1 hps p hp
                          have ht0' : Told (hp (lk t h0)) e t0 tm := fun i v hv => by
                            rcases putAll_get ht0 hv with h4 | h4
                            · exact htold i v h4
                            · cases h4
                          obtain ⟨g1, g2⟩ := zip_ok hus hN2 htt ht0'
                          have hfold : ((ps.zip us.toArray).foldl (fun t (p, v) => t.setIfInBounds p v) tm) = ((ps.toList.zip us).foldl (fun t (p, v) => t.setIfInBounds p v) tm) := by
                            rw [← Array.foldl_toList, Array.toList_zip]
                          rw [hfold]
                          refine ⟨g1.trans htm, fun i v hv => ?_⟩
                          rw [assoc_list] at hv
                          refine ⟨g2 i v hv, fun n hn => ?_⟩
                          rcases putAll_get htt hv with h4 | h4
                          · exact hV.al hcl v (List.of_mem_zip h4).2 n hn
                          · rcases putAll_get ht0 h4 with h4 | h4
                            · refine hcl.1 (.b l) _ (lk_b.2 ⟨_, hl⟩) n ?_
                              show n ∈ D :: ts.flatMap fun x => x.2.names
                              exact List.mem_cons_of_mem _ (List.mem_flatMap.2 ⟨_, h4, hn⟩)
                            · cases h4
                        · intro c' Q' hP' hgv' hgl hN' hfm' hK'
                          rw [hround]
                          refine sA c' _ _ Q' hP' (fok_round _) hN' hfm' (fun n h5 h6 => hgv' n h5 (Nat.lt_of_lt_of_le h6 hle2)) ?_
                          rw [Ctx.fm_eq hfm']; exact hK'
                        · intro c' Q' hP' hgv' hgl hN' hfm' hK'
                          have e1 : upd (lk t1 h1) [(.b l, .b (.lp ⟨.busy, pe1, N1, ts1, ps1, ag1, bd1, D1⟩))] = lk t1 h1' := (lk_putB hl1 hp1).symm
                          have := sB c' (Fence.wide.inRound (c'.ini.id l)) (nn - 1) Q' hP' (fok_round _) hN' hfm' (fun n h5 h6 => hgv' n (Nat.le_trans hle1 h5) h6) (by rw [Ctx.fm_eq hfm']; exact hK')
                          show CW c' _ _ bd Q' (upd (lk t1 h1) [(.b l, .b (.lp ⟨.busy, pe1, N1, ts1, ps1, ag1, bd1, D1⟩))])
                          rw [e1]; exact this
                        · show BackOk c (lk t h0) nx nx2 (upd (hp (lk t2 h2)) [(.b l, .b (.lp ⟨if xt.jump.isNone then .ready else .done, xt.jump, N2, ts2, ps2, ag2, bd2, D2⟩))])
                          rw [hb3]
                          refine ⟨hgv, fun n hn => lk_l0.2 (hi' n hn), fun n hn hb => ?_, fun n hn => ?_, fun n hn => fun h => ?_⟩
                          · obtain ⟨b, hb⟩ := lk_l.1 hb
                            obtain ⟨b0, h4⟩ := eAll.rev n hn b hb
                            exact lk_l.2 ⟨b0, h4⟩
                          · rw [hfmc] at hn
                            have := List.all_eq_true.1 hfm n hn
                            split at this
                            · rename_i hg; exact ⟨lk_l.2 ⟨_, hg⟩, lk_b.2 ⟨_, hg⟩⟩
                            · cases this
                          · exact eAll.al n (fun h6 => hn (lk_l0.2 h6)) (lk_l0.1 h)
                        · show KW c K (upd (mix (lk t h0) (upd (hp (lk t2 h2)) [(.b l, .b (.lp ⟨if xt.jump.isNone then .ready else .done, xt.jump, N2, ts2, ps2, ag2, bd2, D2⟩))])) (putW d (.c (.v (.bool xt.jump.isNone)))))
                          rw [hb3, mix_lk, hs3, ← upd_append]
                          exact ⟨fun e a w hR => hK e a w hR⟩
                    · cases h
                  · cases h
                · cases h
              · cases h
            · cases h
          · cases h
        · cases h
      · cases h
    · cases h
  · cases h
end
end Go.Proofs.Ytgjbhocahpplbaa.EV
