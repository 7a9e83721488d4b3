/- States by names: append, second part. No program in sight. -/
import Derived.Test.YtbjogekhedglgaaEv7
namespace Go.Proofs.Ytbjogekhedglgaa.EV
open Go.RowKit

section
variable {c : Ctx} {F : Fence} {nn : Nat} {σ s : Sf} {e : Env} {a : Act} {w : World}
theorem OkL.append : ∀ {l m : List C} {us vs : List Value}, OkL s e l us → OkL s e m vs → OkL s e (l ++ m) (us ++ vs)
  | [], _, _, _, h, k => by rw [show _ = [] from h]; exact k
  | x :: l, m, _, vs, ⟨u, r, hu, h1, h2⟩, k => by subst hu; exact ⟨u, r ++ vs, rfl, h1, h2.append k⟩
theorem Real.undrew (h : Real c s e a w.drew) : Real c s e a w := h.drawn w.drawn
theorem cellsC_ok {n : Nat} {b : B} {own : Bool} {l : List C} (hl : b.cellsC = some (own, l)) (h : MOk s e w n own l) : BOk s e w n b := by
  cases b with
  | m o l' => cases hl; exact h
  | w o l' => simp only [B.cellsC, Option.some.injEq, Prod.mk.injEq] at hl; obtain ⟨rfl, rfl⟩ := hl; exact h
  | _ => cases hl
theorem cellsC_own {b : B} {own : Bool} {l : List C} (hl : b.cellsC = some (own, l)) : b.own = own ∧ b ≠ .df := by
  cases b with
  | m o l' => cases hl; exact ⟨rfl, by simp⟩
  | w o l' => cases hl; exact ⟨rfl, by simp⟩
  | _ => cases hl
/-- The name m takes what is new. -/
theorem Real.grown (h : Real c s e a w) {m k z cap : Nat} {vs : List C} {all : List Value} {el : TypeId} {b' : B} (hm : ¬ c.gv m) (hn : s (.l m) = none) (hcap : k ≤ cap) (hml : cap ≤ maxLen) (hv : OkL s e vs (all.take (k * z))) (hlen : all.length = cap * z) (hnm : ∀ j ∈ vs.flatMap C.names, s (.l j) ≠ none) (hb' : b'.cellsC = some (true, vs)) :
    Real c (upd s (wsNew m b')) (e.set m w.heap.size 0 all.length) a (w.alloc (.cells all.toArray el)) ∧ Rep (e.set m w.heap.size 0 all.length) (.g m 0 k k z) (.slice (some ⟨w.heap.size, 0, none⟩) k cap) := by
  refine ⟨h.new hm hn _ _ (cellsC_ok hb' ?_) (fun j hj => .inr (hnm j (by rw [B.cellsC_names hb']; exact hj))), .inl ⟨cap, by simp [Env.set_id, Env.set_bs], hcap, hcap, hml, by rw [Env.set_rm, hlen]; omega⟩⟩
  have hlv := hv.length
  rw [List.length_take] at hlv
  have hle : k * z ≤ cap * z := Nat.mul_le_mul_right z hcap
  refine ⟨by rw [Env.set_rm]; omega, .inr ⟨all.toArray, el, (0, 0), by rw [Env.set_id]; exact World.alloc_heap_new w _, fun _ => .inl rfl, by rw [Env.set_bs, Env.set_rm]; simp, fun i x hx => ?_⟩⟩
  obtain ⟨u, h1, h2⟩ := hv.get hx
  rw [List.getElem?_take] at h1
  split at h1
  · exact ⟨u, by rw [Env.set_bs]; simpa using h1, h2.mono fun j hj => by
      have hj' : s (.l j) ≠ none := hnm j (List.mem_flatMap.2 ⟨x, List.mem_of_getElem? hx, hj⟩)
      exact ⟨(wsNew_live (not_live hn hj')).1, (Env.set_ne e (not_live hn hj')).symm⟩⟩
  · cases h1
theorem Real.void (h : Real c s e a w) {m z : Nat} {p : Option Addr} {b' : B} (hm : ¬ c.gv m) (hn : s (.l m) = none) (hb' : b'.cellsC = some (true, [])) :
    Real c (upd s (wsNew m b')) (e.set m 0 0 0) a w ∧ Rep (e.set m 0 0 0) (.g m 0 0 0 z) (.slice p 0 0) := by
  refine ⟨?_, .inr ⟨rfl, rfl, p, rfl⟩⟩
  have h1 := h.phantom hm hn
  refine h1.withW ?_ (fun i => by rw [wsNew_t, wsNew_t]) (fun k hk => ⟨fun hx => by unfold live at *; rw [wsNew_l] at hx ⊢; exact hx, .rfl⟩) (fun k hk => by
    have hne : m ≠ k := fun e => by
      have := (h1.fml k hk).2
      rw [wsNew_b, if_pos e] at this; cases this
    rw [wsNew_l, wsNew_l, wsNew_b, wsNew_b, if_neg hne, if_neg hne, if_neg hne]; exact ⟨rfl, rfl⟩)
  have hw := h1.W
  have hbm : ∀ k, upd s (wsNew m b') (.l k) = upd s (wsNew m (.m true [])) (.l k) := fun k => by rw [wsNew_l, wsNew_l]
  have hlv : ∀ k, live (upd s (wsNew m b')) k → live (upd s (wsNew m (.m true []))) k := fun k hk => by unfold live at *; rw [← hbm]; exact hk
  have hbb : ∀ k, k ≠ m → upd s (wsNew m b') (.b k) = upd s (wsNew m (.m true [])) (.b k) := fun k hk => by rw [wsNew_b, wsNew_b, if_neg (fun e => hk e.symm), if_neg (fun e => hk e.symm)]
  have hbo : ∀ k b2, upd s (wsNew m b') (.b k) = some (.b b2) → ∃ b3, upd s (wsNew m (.m true [])) (.b k) = some (.b b3) ∧ b3.own = b2.own := fun k b2 hk => by
    by_cases hkm : k = m
    · subst hkm
      rw [wsNew_b, if_pos rfl] at hk; cases hk
      exact ⟨.m true [], by rw [wsNew_b, if_pos rfl], (cellsC_own hb').1.symm⟩
    · rw [hbb k hkm] at hk; exact ⟨b2, hk, rfl⟩
  refine ⟨fun k b2 h1 h2 => ?_, fun k k' b1 b2 h1 h2 h3 h4 hkk ho => ?_, fun k b2 h1 h2 ho => ?_, h.W.cl.new (fun k hk => by rw [← B.cellsC_names hb'] at hk; cases hk), hw.given, hw.os, hw.tape, hw.output, hw.size, hw.old⟩
  · rw [hbm] at h1
    by_cases hkm : k = m
    · subst hkm
      rw [wsNew_b, if_pos rfl] at h2; cases h2
      exact cellsC_ok hb' ⟨Nat.zero_le _, .inl (Env.set_rm ..)⟩
    · rw [hbb k hkm] at h2
      exact (hw.blk k b2 h1 h2).mono (fun j _ => ⟨hlv j, .rfl⟩) .rfl (fun _ => rfl)
  · rw [hbm] at h1 h3
    obtain ⟨b3, h5, h6⟩ := hbo k b1 h2
    obtain ⟨b4, h7, h8⟩ := hbo k' b2 h4
    exact hw.sep k k' b3 b4 h1 h5 h3 h7 hkk (h6.trans ho)
  · rw [hbm] at h1
    obtain ⟨b3, h5, h6⟩ := hbo k b2 h2
    exact hw.own k b3 h1 h5 (h6.trans ho)
/-- Appending to what one owns: the name is given up. -/
theorem Real.append (hR : Real c s e a w) {n m o len k z : Nat} {b b' : B} {l vs : List C} {t t2 el ty : TypeId} {i : TypeInfo} {zv : Value} {u X : Value} {us : List Value} (hm : ¬ c.gv m) (hn : s (.l m) = none) (ha : s (.l n) = some (.l true)) (hb : s (.b n) = some (.b b)) (hl : b.cellsC = some (true, l)) (hle : o + len * z ≤ l.length)
    (hu : (∃ kk, u = .slice (some ⟨e.id n, e.bs n + o, none⟩) len kk ∧ len ≤ kk ∧ kk ≤ maxLen ∧ o + kk * z ≤ e.rm n) ∨ (len = 0 ∧ ∃ p, u = .slice p 0 0)) (hT : AppT c.P t t2 el z i zv (len + k)) (hlu : us.length = k * z) (hv : OkL s e vs us) (hnm : ∀ j ∈ vs.flatMap C.names, s (.l j) ≠ none)
    (hX : ∀ w', w'.heap = w.heap → (Builtin.lenOf X).run c.P w' = .ok k w' ∧ (Builtin.firstCells z k X).run c.P w' = .ok us.toArray w') (hb' : b'.cellsC = some (true, (l.drop o).take (len * z) ++ vs)) :
    ∃ r w' e', (Builtin.append_ #[t, t2] ty #[u, X]).run c.P w = .ok r w' ∧ Real c (upd s (wsSteal n m b')) e' a w' ∧ Rep e' (.g m 0 (len + k) (len + k) z) r := by
  have hnem : n ≠ m := fun e => by rw [← e, ha] at hn; cases hn
  have hM := hR.W.cells ha hb hl
  obtain ⟨olds, h1, h2, h3⟩ := hM.range o (len * z) hle
  have hfit := hT.fit
  have hmaxLen : len + k ≤ maxLen := by have : maxLen = 140737488351232 ∨ True := .inr trivial; simp only [maxLen]; omega
  -- the name given up
  have hk : Real c (upd s [(.l n, .l false)]) e a w := hR.kill hb (cellsC_own hl).2
  have hnk : upd s [(.l n, .l false)] (.l m) = none := by rw [upd_cons_ne _ _ _ (by simpa using hnem), upd_nil]; exact hn
  have hmo : ∀ j, Mo s e (upd s [(.l n, .l false)]) e j := fun j => ⟨fun hx => by
    unfold live at *; rw [upd_cons, upd_nil] at hx; split at hx
    · cases hx
    · exact hx, .rfl⟩
  have hnk2 : ∀ j, s (.l j) ≠ none → upd s [(.l n, .l false)] (.l j) ≠ none := fun j hj => by
    rw [upd_cons, upd_nil]; split
    · simp
    · exact hj
  have hold_nm : ∀ j ∈ ((l.drop o).take (len * z)).flatMap C.names, s (.l j) ≠ none := fun j hj => by
    refine hR.W.cl.1 (.b n) (.b b) hb j ?_
    show j ∈ b.names
    rw [← B.cellsC_names hl]
    simp only [List.mem_flatMap] at hj ⊢
    obtain ⟨y, hy, hj⟩ := hj
    exact ⟨y, List.mem_of_mem_drop (List.mem_of_mem_take hy), hj⟩
  have hall_nm : ∀ j ∈ ((l.drop o).take (len * z) ++ vs).flatMap C.names, s (.l j) ≠ none := fun j hj => by
    rw [List.flatMap_append] at hj
    rcases List.mem_append.1 hj with hj | hj
    · exact hold_nm j hj
    · exact hnm j hj
  have hboth := h2.append hv
  have hnew : ∀ {cap0 p}, u = .slice p len cap0 → ¬ len + k ≤ cap0 → (Builtin.firstCells z len (.slice p len cap0)).run c.P w.drew = .ok olds.toArray w.drew →
      ∃ r w' e', (Builtin.append_ #[t, t2] ty #[u, X]).run c.P w = .ok r w' ∧ Real c (upd s (wsSteal n m b')) e' a w' ∧ Rep e' (.g m 0 (len + k) (len + k) z) r := by
    intro cap0 p hu0 hnf hfo
    obtain ⟨zr, hz1, hrun⟩ := run_app_new (ty := ty) (w := w) hT (hX w rfl).1 (hX w.drew rfl).2 hnf hfo
    have hge := grownCap_ge w (len + k) cap0 el
    have hgl := grownCap_le_maxLen w (len + k) cap0 el hmaxLen
    have hlen : (olds ++ us ++ zr).length = grownCap w (len + k) cap0 el * z := by
      simp only [List.length_append, h1, hlu, hz1, ← Nat.add_mul]; congr 1; omega
    have htk : (olds ++ us ++ zr).take ((len + k) * z) = olds ++ us := by
      rw [List.take_append_of_le_length (by simp [h1, hlu, Nat.add_mul]), List.take_of_length_le (by simp [h1, hlu, Nat.add_mul])]
    obtain ⟨g1, g2⟩ := (hk.drawn (w.drawn + 1)).grown (z := z) (k := len + k) (el := el) (b' := b') (vs := (l.drop o).take (len * z) ++ vs) (all := olds ++ us ++ zr) hm hnk hge hgl (by rw [htk]; exact hboth.mono fun j _ => hmo j) hlen (fun j hj => hnk2 j (hall_nm j hj)) hb'
    refine ⟨_, _, _, by rw [hu0]; exact hrun, ?_, g2⟩
    rw [steal_eq hnem]; exact g1
  rcases hu with ⟨kk, hu, hk1, hk2, hk3⟩ | ⟨hlen0, p, hu⟩
  · by_cases hfitc : len + k ≤ kk
    · -- there is room
      have hroom : o + len * z + k * z ≤ e.rm n := by
        have : (len + k) * z ≤ kk * z := Nat.mul_le_mul_right z hfitc
        rw [Nat.add_mul] at this; omega
      have hst : (storeCells ((⟨e.id n, e.bs n + o, none⟩ : Addr).add (len * z)) us).run c.P w = .ok () (w.setCells (e.id n) (e.bs n + o + len * z) us) ∧ (e.rm n = 0 → w.setCells (e.id n) (e.bs n + o + len * z) us = w) ∧
          BOk (upd s (wsSteal n m b')) (e.set m (e.id n) (e.bs n + o) (e.rm n - o)) (w.setCells (e.id n) (e.bs n + o + len * z) us) m b' := by
        rcases hM.2 with h0 | ⟨cs, cty, fz, c1, c2, c3, c4⟩
        · have hus : us = [] := List.eq_nil_of_length_eq_zero (by omega)
          subst hus
          refine ⟨rfl, fun _ => rfl, cellsC_ok hb' ⟨?_, .inl (by rw [Env.set_rm, h0]; omega)⟩⟩
          have := hv.length; simp at this
          simp [this] at hle ⊢
          have : ((l.drop o).take (len * z)).length = len * z := by simp; omega
          rw [Env.set_rm]; simp at this; omega
        · obtain ⟨cs', g1, g2, g3⟩ := setCells_spec (e.id n) us (e.bs n + o + len * z) w cs cty fz c1
          refine ⟨?_, fun h0 => ?_, cellsC_ok hb' ⟨?_, .inr ⟨cs', cty, fz, by rw [Env.set_id]; exact g1, fun _ => ?_, ?_, fun i x hx => ?_⟩⟩⟩
          · rw [add_mid]
            have := run_storeCells_cells (P := c.P) (e.id n) (e.bs n + o + len * z) us 0 w (fun j hj => by simp [World.cell?, c1]; omega) (fun j hj => by
              have := unfroz (c2 rfl) (i := o + len * z + j) (by omega)
              simp only [World.frozen?, c1]
              rw [← Bool.not_eq_true]
              intro hb
              simp only [Bool.and_eq_true, decide_eq_true_eq] at hb
              exact this ⟨by omega, by omega⟩) (fun v hv' => hv.all_one v hv')
            simpa using this
          · have hus : us = [] := List.eq_nil_of_length_eq_zero (by omega)
            subst hus; rfl
          · have h5 : ((l.drop o).take (len * z)).length = len * z := by simp; omega
            rw [Env.set_rm, List.length_append, h5, ← hv.length, hlu]; omega
          · rw [Env.set_rm, Env.set_bs]
            have := c2 rfl
            omega
          · rw [Env.set_bs, Env.set_rm, g2]; omega
          · rw [Env.set_bs, g3]
            have h5 : ((l.drop o).take (len * z)).length = len * z := by simp; omega
            have hmo2 : ∀ j, s (.l j) ≠ none → Mo s e (upd s (wsSteal n m b')) (e.set m (e.id n) (e.bs n + o) (e.rm n - o)) j := fun j hj => ⟨fun hx => by
              unfold live at *
              rw [steal_eq hnem, wsNew_l, if_neg (fun e => not_live hn hj e.symm)] at hx
              exact (hmo j).1 hx, (Env.set_ne e (not_live hn hj)).symm⟩
            have hxm : ∀ j ∈ x.names, Mo s e (upd s (wsSteal n m b')) (e.set m (e.id n) (e.bs n + o) (e.rm n - o)) j := fun j hj => hmo2 j (hall_nm j (List.mem_flatMap.2 ⟨x, List.mem_of_getElem? hx, hj⟩))
            by_cases hi : i < len * z
            · rw [if_neg (by omega)]
              rw [List.getElem?_append_left (by omega), List.getElem?_take, if_pos hi, List.getElem?_drop] at hx
              obtain ⟨v, h6, h7⟩ := c4 (o + i) x hx
              exact ⟨v, by rw [← h6, Nat.add_assoc], h7.mono hxm⟩
            · rw [List.getElem?_append_right (by omega), h5] at hx
              obtain ⟨v, h6, h7⟩ := hv.get hx
              have hil : i - len * z < us.length := (List.getElem?_eq_some_iff.1 h6).1
              rw [if_pos (by omega), show e.bs n + o + i - (e.bs n + o + len * z) = i - len * z by omega]
              exact ⟨v, h6, h7.mono hxm⟩
      obtain ⟨s1, s2, s3⟩ := hst
      have hg := setCells_grown (e.id n) us (e.bs n + o + len * z) w
      refine ⟨.slice (some ⟨e.id n, e.bs n + o, none⟩) (len + k) kk, _, _, ?_, hR.steal (o := o) hm hn ha hb (cellsC_own hl).2 (cellsC_own hl).1 (fun k hk => setCells_other _ _ _ _ k hk) s2 hg.size hg.os hg.tape hg.output s3 (fun j hj => hall_nm j (by rw [B.cellsC_names hb']; exact hj)), .inl ⟨kk, ?_, hfitc, hfitc, hk2, ?_⟩⟩
      · rw [hu]
        exact run_app_fit (ty := ty) hT (hX w rfl).1 (hX w rfl).2 hfitc (fun q hq => by cases hq; exact s1) (fun hq => by cases hq)
      · rw [Env.set_id, Env.set_bs]; rfl
      · rw [Env.set_rm]; omega
    · exact hnew hu hfitc (first_some rfl h1 h3)
  · have hold : olds = [] := List.eq_nil_of_length_eq_zero (by rw [h1, hlen0]; simp)
    by_cases hk0 : k = 0
    · subst hk0; subst hlen0
      have hus : us = [] := List.eq_nil_of_length_eq_zero (by rw [hlu]; simp)
      have hvs : vs = [] := List.eq_nil_of_length_eq_zero (by rw [← hv.length, hus]; rfl)
      subst hvs
      have hb2 : b'.cellsC = some (true, []) := by rw [hb']; simp
      obtain ⟨g1, g2⟩ := hk.void (z := z) (p := p) hm hnk hb2
      refine ⟨.slice p 0 0, w, _, ?_, by rw [steal_eq hnem]; exact g1, g2⟩
      rw [hu]
      have := run_app_fit (ty := ty) (p := p) (cap := 0) (len := 0) (w := w) (w' := w) hT (hX w rfl).1 (hX w rfl).2 (by omega) (fun q hq => by rw [hus]; rfl) (fun _ => rfl)
      simpa using this
    · subst hlen0
      exact hnew (cap0 := 0) (p := p) hu (by omega) (by rw [hold]; exact first_zero)
end
end Go.Proofs.Ytbjogekhedglgaa.EV
