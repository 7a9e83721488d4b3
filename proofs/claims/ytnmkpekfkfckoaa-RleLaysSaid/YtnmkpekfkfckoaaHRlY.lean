/- rle: what is read of a span's bytes, and the bytes of what was read: plain laws. -/
import Derived.Test.YtnmkpekfkfckoaaHRlV
import Derived.Test.YtnmkpekfkfckoaaHRlI
namespace Go.Proofs.Ytnmkpekfkfckoaa
set_option linter.unusedSimpArgs false
set_option linter.unusedVariables false
open Go.RowKit EV
open EW (nums)
set_option maxRecDepth 20000
theorem takeP_enc {p : Px} (hm : p.may) (hw : p.wf) (t : List Int) : takeP (encP p ++ t) = some (p, (encP p).length) := by
  rcases px_nat hm hw with rfl | ⟨z, o, t', c, rfl, hz, ho, ht, hc⟩
  · rw [encP_e, takeP, num_form _ _ (by omega)]; dsimp only; rw [if_pos rfl]
  · rw [encP_n hz]
    have e0 : formN z ++ formN o ++ formN t' ++ formN c ++ t = formN z ++ (formN o ++ (formN t' ++ (formN c ++ t))) := by simp only [List.append_assoc]
    rw [e0]
    have n0 := num_form z (formN o ++ (formN t' ++ (formN c ++ t))) (by omega)
    have d1 : (formN z ++ (formN o ++ (formN t' ++ (formN c ++ t)))).drop (formN z).length = formN o ++ (formN t' ++ (formN c ++ t)) := List.drop_left' rfl
    have d2 : (formN z ++ (formN o ++ (formN t' ++ (formN c ++ t)))).drop ((formN z).length + (formN o).length) = formN t' ++ (formN c ++ t) := by
      rw [← List.drop_drop, d1]; exact List.drop_left' rfl
    have d3 : (formN z ++ (formN o ++ (formN t' ++ (formN c ++ t)))).drop ((formN z).length + (formN o).length + (formN t').length) = formN c ++ t := by
      rw [← List.drop_drop, d2]; exact List.drop_left' rfl
    have n1 := num_form o (formN t' ++ (formN c ++ t)) (by omega)
    have n2 := num_form t' (formN c ++ t) (by omega)
    have n3 := num_form c t (by omega)
    unfold takeP
    rw [n0]; dsimp only
    rw [if_neg (by omega), if_neg (by omega), d1, n1]; dsimp only
    rw [if_neg (by omega), d2, n2]; dsimp only
    rw [if_neg (by omega), d3, n3]; dsimp only
    rw [if_neg (by omega)]
    simp only [List.length_append]
theorem takeP_cut {l : List Int} {x : Px} {k : Nat} (hb : By l) (h : takeP l = some (x, k)) : encP x = l.take k := by
  have hT := takeP_is l
  rw [h] at hT
  cases hT with
  | e k0 h0 => rw [encP_e]; exact (num_spec hb h0).1
  | n z o t c k0 k1 k2 k3 h0 hz h1 ho h2 ht h3 o1 hc =>
    rw [encP_n hz, (num_spec hb h0).1, (num_spec (by_drop hb _) h1).1, (num_spec (by_drop hb _) h2).1, (num_spec (by_drop hb _) h3).1]
    rw [List.take_add, List.take_add, List.take_add]
theorem num_dec {bs : List Int} {p v k : Nat} (hy : By bs) (h : num (bs.drop p) = some (v, k)) : bs.drop p = formN v ++ bs.drop (p + k) := by
  rw [(num_spec (by_drop hy p) h).1, ← List.drop_drop, List.take_append_drop]
theorem px_dec {bs : List Int} {p k : Nat} {x : Px} (hy : By bs) (h : takeP (bs.drop p) = some (x, k)) : bs.drop p = encP x ++ bs.drop (p + k) := by
  rw [takeP_cut (by_drop hy p) h, ← List.drop_drop, List.take_append_drop]
/-- Pixels that are set, and may be. -/
abbrev Brt (l : List Px) : Prop := ∀ x ∈ l, ¬ x.emp ∧ x.may ∧ x.wf
abbrev Okp (l : List Px) : Prop := ∀ x ∈ l, x.may ∧ x.wf
theorem mny_dec {bs : List Int} {c p q : Nat} {ps r : List Px} {f : Bool} (hy : By bs) (h : Mny bs c ps p r q f) (hf : f = false) : ∃ t, r = ps ++ t ∧ ps.length + t.length = c ∧ Brt t ∧ bs.drop p = t.flatMap encP ++ bs.drop q := by
  induction h with
  | done h => exact ⟨[], by simp, by simpa using h, fun x hx => by simp at hx, by simp⟩
  | bad _ _ => cases hf
  | @next ps p x k r q f h hB hM ih =>
    obtain ⟨t, h1, h2, h3, h4⟩ := ih hf
    refine ⟨x :: t, by rw [h1, List.append_assoc]; rfl, by rw [List.length_append, List.length_singleton] at h2; rw [List.length_cons]; omega, fun y hy => ?_, ?_⟩
    · rcases List.mem_cons.1 hy with rfl | hy
      · exact ⟨hB.e, hB.may, hB.wf⟩
      · exact h3 y hy
    · rw [px_dec hy hB.h, h4, List.flatMap_cons, List.append_assoc]
theorem many_dec {bs : List Int} {m p q : Nat} {r : List Px} (hy : By bs) (h : ManyR bs m p r q false) : Brt r ∧ bs.drop p = formN r.length ++ r.flatMap encP ++ bs.drop q := by
  cases h with
  | ok h k0 k1 hc hM _ =>
    obtain ⟨t, h1, h2, h3, h4⟩ := mny_dec hy hM rfl
    rw [List.nil_append] at h1
    subst h1
    rw [List.length_nil, Nat.zero_add] at h2
    exact ⟨h3, by rw [num_dec hy h, h4, h2, List.append_assoc]⟩
theorem emp_pE {x : Px} (h : x.emp) (hm : x.may) : x = pE := by
  obtain ⟨z, o, t, c⟩ := x
  unfold Px.emp at h
  unfold Px.may at hm
  dsimp only at *
  rcases hm with ⟨a1, a2, _⟩ | ⟨rfl, rfl, rfl, rfl⟩
  · omega
  · rfl
theorem skipE_rep (t : List Px) (h : t = [] ∨ ¬ (t.getD 0 Px.zero).emp) : ∀ s, skipE (List.replicate s pE ++ t) = s
  | 0 => by
    rw [List.replicate_zero, List.nil_append]
    cases t with
    | nil => rfl
    | cons x t =>
      rcases h with h | h
      · cases h
      · rw [skipE, if_neg (by simpa using h)]
  | s + 1 => by rw [List.replicate_succ, List.cons_append, skipE, if_pos rfl, skipE_rep t h s]
theorem skipS_app (t : List Px) (h : t = [] ∨ (t.getD 0 Px.zero).emp) : ∀ r : List Px, Brt r → skipS (r ++ t) = r.length
  | [], _ => by
    rw [List.nil_append]
    cases t with
    | nil => rfl
    | cons x t =>
      rcases h with h | h
      · cases h
      · rw [skipS, if_pos (by simpa using h)]; rfl
  | x :: r, hr => by rw [List.cons_append, skipS, if_neg (hr x (by simp)).1, skipS_app t h r fun y hy => hr y (by simp [hy]), List.length_cons]
theorem encB_at (l r d : List Px) (s : Nat) (hr : Brt r) (h0 : 0 < r.length) (hd : d = [] ∨ (d.getD 0 Px.zero).emp) : encB (wE l s ++ r ++ d) l.length = formN s ++ formN r.length ++ r.flatMap encP ++ encB (wE l s ++ r ++ d) (wE l s ++ r).length := by
  obtain ⟨L, hL⟩ : ∃ L, wE l s ++ r ++ d = L := ⟨_, rfl⟩
  have d1 : L.drop l.length = List.replicate s pE ++ (r ++ d) := by rw [← hL, wE, List.append_assoc, List.append_assoc]; exact List.drop_left' rfl
  have hne : r ++ d = [] ∨ ¬ ((r ++ d).getD 0 Px.zero).emp := by
    cases r with
    | nil => simp at h0
    | cons x r => exact .inr (hr x (by simp)).1
  have a1 : runA L l.length = l.length + s := by rw [runA, d1, skipE_rep _ hne]
  have d2 : L.drop (l.length + s) = r ++ d := by rw [← List.drop_drop, d1]; exact List.drop_left' (by simp)
  have a2 : runB L l.length = l.length + s + r.length := by rw [runB, a1, d2, skipS_app _ hd _ hr]
  have hlen : L.length = l.length + s + r.length + d.length := by rw [← hL]; simp only [List.length_append, List.length_replicate]
  rw [hL, encB_run (by omega) (by omega), a1, a2, show l.length + s - l.length = s by omega, show l.length + s + r.length - (l.length + s) = r.length by omega, show (wE l s ++ r).length = l.length + s + r.length by simp only [List.length_append, List.length_replicate]]
  unfold pixB
  rw [d2, List.take_left' rfl]
theorem run_dec {bs : List Int} (hy : By bs) {n p rp : Nat} {l rl : List Px} {f : Bool} (h : Run bs n l p rl rp f) (hf : f = false) (hl : l.length ≤ n) : ∃ d, rl = l ++ d ∧ rl.length = n ∧ (0 < l.length → d = [] ∨ (d.getD 0 Px.zero).emp) ∧ Okp d ∧ bs.drop p = encB rl l.length ++ bs.drop rp := by
  induction h with
  | @done l p h => exact ⟨[], by simp, by omega, fun _ => .inl rfl, fun x hx => by simp at hx, by rw [encB_end (by omega)]; rfl⟩
  | small _ _ => cases hf
  | zero _ _ _ _ => cases hf
  | none _ _ _ _ _ _ _ => cases hf
  | @last l p s k h0 h1 h2 h3 h4 =>
    refine ⟨List.replicate s pE, rfl, by rw [wE_len]; exact h4, fun _ => .inr ?_, fun x hx => ?_, ?_⟩
    · cases s with
      | zero => omega
      | succ s => rfl
    · rw [List.eq_of_mem_replicate hx]; exact ⟨by decide, by decide⟩
    · have e : runA (wE l s) l.length = l.length + s := by
        rw [runA, show (wE l s).drop l.length = List.replicate s pE ++ [] by rw [List.append_nil]; exact List.drop_left' rfl, skipE_rep [] (.inl rfl)]
      rw [encB_last (by rw [wE_len]; omega) (by rw [e, wE_len]; omega), wE_len, show l.length + s - l.length = s by omega]
      exact num_dec hy h1
  | @next l p s k r q rl rp rf h0 h1 h2 h3 h4 hM h5 h6 h7 hR ih =>
    obtain ⟨d, e1, e2, e3, e4, e5⟩ := ih hf (by simp only [List.length_append, List.length_replicate]; omega)
    obtain ⟨m1, m2⟩ := many_dec hy hM
    refine ⟨List.replicate s pE ++ r ++ d, by rw [e1, wE]; simp only [List.append_assoc], e2, fun hp => .inr ?_, fun x hx => ?_, ?_⟩
    · cases s with
      | zero => omega
      | succ s => rfl
    · rcases List.mem_append.1 hx with hx | hx
      · rcases List.mem_append.1 hx with hx | hx
        · rw [List.eq_of_mem_replicate hx]; exact ⟨by decide, by decide⟩
        · exact (m1 x hx).2
      · exact e4 x hx
    · rw [e1] at e5 ⊢
      rw [encB_at l r d s m1 h6 (e3 (by simp only [List.length_append]; omega)), num_dec hy h1, m2, e5]
      simp only [List.append_assoc]
/-- What is read of bytes to their end has these bytes. -/
theorem dec_enc {bs : List Int} {n k : Nat} {rl : List Px} (hy : By bs) (hn : num bs = some (n, k)) (h4 : n ≤ 4096) (h : Run bs n [] k rl bs.length false) : Gd rl ∧ rleB rl = bs := by
  obtain ⟨d, e1, e2, e3, e4, e5⟩ := run_dec hy h rfl (Nat.zero_le _)
  rw [List.nil_append] at e1
  subst e1
  have hg : ∀ i, i < rl.length → (rl.getD i Px.zero).may ∧ (rl.getD i Px.zero).wf := fun i hi => by
    rw [List.getD_eq_getElem?_getD, List.getElem?_eq_getElem hi]; exact e4 _ (List.getElem_mem hi)
  refine ⟨⟨⟨by omega, fun i hi => (hg i hi).1⟩, fun i hi => (hg i hi).2⟩, ?_⟩
  have := num_dec (p := 0) hy (by rw [List.drop_zero]; exact hn)
  rw [List.drop_zero, Nat.zero_add, e5, List.drop_length, List.append_nil] at this
  rw [this, rleB, e2]; rfl
theorem bry_of {bs : List Int} {p k : Nat} {x : Px} (hy : By bs) (hl : bs.length ≤ 1000000) (hp : p ≤ bs.length) (h : takeP (bs.drop p) = some (x, k)) (he : ¬ x.emp) : BrY bs p x k := by
  obtain ⟨k0, k1, hm, hw, hT⟩ := itake_ok bs p (bs.length - p) hy (by omega) hl x k h
  rw [show bs.length - p - k = bs.length - (p + k) by omega] at hT
  exact ⟨h, he, k0, by omega, hm, hw, bright_any bs p (p + k) false x hT he⟩
theorem drop_of {bs a t : List Int} {p : Nat} (h : bs.drop p = a ++ t) : bs.drop (p + a.length) = t := by
  rw [← List.drop_drop, h]; exact List.drop_left' rfl
theorem le_of_drop {bs a t : List Int} {p : Nat} (h : bs.drop p = a ++ t) (hp : p ≤ bs.length) : p + a.length ≤ bs.length := by
  have := congrArg List.length h
  rw [List.length_drop, List.length_append] at this; omega
theorem mny_enc {bs : List Int} (hy : By bs) (hl : bs.length ≤ 1000000) (c : Nat) : ∀ (t ps : List Px) (p : Nat) (u : List Int), Brt t → p ≤ bs.length → bs.drop p = t.flatMap encP ++ u → ps.length + t.length = c → Mny bs c ps p (ps ++ t) (p + (t.flatMap encP).length) false
  | [], ps, p, u, _, _, _, hc => by
    rw [List.append_nil]; exact .done (by simpa using hc)
  | x :: t, ps, p, u, hB, hp, h, hc => by
    rw [List.flatMap_cons, List.append_assoc] at h
    obtain ⟨b1, b2, b3⟩ := hB x (by simp)
    have hT : takeP (bs.drop p) = some (x, (encP x).length) := by rw [h]; exact takeP_enc b2 b3 _
    have := mny_enc hy hl c t (ps ++ [x]) (p + (encP x).length) u (fun y hy => hB y (by simp [hy])) (le_of_drop h hp) (drop_of h) (by rw [List.length_append, List.length_singleton]; rw [List.length_cons] at hc; omega)
    rw [List.flatMap_cons, List.length_append, ← Nat.add_assoc, show ps ++ x :: t = ps ++ [x] ++ t by simp]
    exact .next (by rw [List.length_cons] at hc; omega) (bry_of hy hl hp hT b1) this
theorem getD_mem {l : List Px} {i : Nat} (h : i < l.length) : l.getD i Px.zero ∈ l := by
  rw [List.getD_eq_getElem?_getD, List.getElem?_eq_getElem h]; exact List.getElem_mem h
theorem mem_getD {l : List Px} {x : Px} (h : x ∈ l) : ∃ i, i < l.length ∧ l.getD i Px.zero = x := by
  obtain ⟨i, hi, e⟩ := List.getElem_of_mem h
  exact ⟨i, hi, by rw [List.getD_eq_getElem?_getD, List.getElem?_eq_getElem hi, ← e]; rfl⟩
theorem empties {rl : List Px} (hm : Okp rl) (a : Nat) (h : a ≤ rl.length) : (rl.drop a).take (runA rl a - a) = List.replicate (runA rl a - a) pE := by
  have hle := skipE_le (rl.drop a)
  have hs : runA rl a - a = skipE (rl.drop a) := by unfold runA; omega
  rw [hs]
  rw [List.eq_replicate_iff]
  refine ⟨by rw [List.length_take]; omega, fun x hx => ?_⟩
  obtain ⟨i, hi, rfl⟩ := mem_getD hx
  rw [List.length_take] at hi
  have e : ((rl.drop a).take (skipE (rl.drop a))).getD i Px.zero = (rl.drop a).getD i Px.zero := by
    rw [List.getD_eq_getElem?_getD, List.getElem?_take_of_lt (by omega), List.getD_eq_getElem?_getD]
  rw [e]
  exact emp_pE (skipE_in _ i (by omega)) (hm _ (List.mem_of_mem_drop (getD_mem (by omega)))).1
theorem brights {rl : List Px} (hm : Okp rl) (b k : Nat) (hk : k ≤ skipS (rl.drop b)) : Brt ((rl.drop b).take k) := fun x hx => by
  obtain ⟨i, hi, rfl⟩ := mem_getD hx
  rw [List.length_take] at hi
  have e : ((rl.drop b).take k).getD i Px.zero = (rl.drop b).getD i Px.zero := by
    rw [List.getD_eq_getElem?_getD, List.getElem?_take_of_lt (by omega), List.getD_eq_getElem?_getD]
  rw [e]
  exact ⟨skipS_in _ i (by omega), hm _ (List.mem_of_mem_drop (getD_mem (by omega)))⟩
theorem run_enc {bs : List Int} (hy : By bs) (hl : bs.length ≤ 1000000) {rl : List Px} (hm : Okp rl) (hn : rl.length ≤ 4096) : ∀ (k a p : Nat) (t : List Int), rl.length - a ≤ k → a ≤ rl.length → p ≤ bs.length → (0 < a → a < rl.length → (rl.getD a Px.zero).emp) → bs.drop p = encB rl a ++ t → Run bs rl.length (rl.take a) p rl (p + (encB rl a).length) false
  | k, a, p, t, hk, ha, hp, h0, h => by
    have hta : (rl.take a).length = a := by rw [List.length_take]; omega
    by_cases h1 : a < rl.length
    · have hA := runA_le ha
      have hE := empties hm a ha
      have hz : runA rl a - a = 0 → a = 0 := fun hz => by
        rcases Nat.eq_zero_or_pos a with h | h
        · exact h
        · have := runA_emp h1 (h0 h h1)
          have := runA_le (l := rl) (a := a + 1) (by omega)
          omega
      by_cases h2 : runA rl a < rl.length
      · have hB := runB_gt h2
        have e1 : rl.take (runB rl a) = wE (rl.take a) (runA rl a - a) ++ (rl.drop (runA rl a)).take (runB rl a - runA rl a) := by
          rw [wE, ← hE, ← List.take_add, show a + (runA rl a - a) = runA rl a by omega, ← List.take_add, show runA rl a + (runB rl a - runA rl a) = runB rl a by omega]
        have hbr := brights hm (runA rl a) (runB rl a - runA rl a) (by unfold runB; omega)
        have hrl : ((rl.drop (runA rl a)).take (runB rl a - runA rl a)).length = runB rl a - runA rl a := by rw [List.length_take, List.length_drop]; omega
        have hb0 : 0 < runB rl a → runB rl a < rl.length → (rl.getD (runB rl a) Px.zero).emp := fun _ hlt => by
          have := skipS_at (rl.drop (runA rl a)) (by rw [List.length_drop]; unfold runB at hlt; omega)
          rwa [drop_getD] at this
        rw [encB_run h1 h2] at h ⊢
        have e9 : formN (runA rl a - a) ++ formN (runB rl a - runA rl a) ++ pixB rl (runA rl a) (runB rl a - runA rl a) ++ encB rl (runB rl a) ++ t = formN (runA rl a - a) ++ (formN (runB rl a - runA rl a) ++ (pixB rl (runA rl a) (runB rl a - runA rl a) ++ (encB rl (runB rl a) ++ t))) := by simp only [List.append_assoc]
        rw [e9] at h
        have p1 := le_of_drop h hp
        have g1 := drop_of h
        have p2 := le_of_drop g1 p1
        have g2 := drop_of g1
        have p3 := le_of_drop g2 p2
        have g3 := drop_of g2
        have ih := run_enc hy hl hm hn (k - 1) (runB rl a) _ t (by omega) (by omega) p3 hb0 g3
        have n1 : num (bs.drop p) = some (runA rl a - a, (formN (runA rl a - a)).length) := by rw [h]; exact num_form _ _ (by omega)
        have n2 : num (bs.drop (p + (formN (runA rl a - a)).length)) = some (runB rl a - runA rl a, (formN (runB rl a - runA rl a)).length) := by rw [g1]; exact num_form _ _ (by omega)
        have hM := mny_enc hy hl (runB rl a - runA rl a) _ [] _ _ hbr p2 g2 (by rw [hrl]; simp)
        rw [List.nil_append] at hM
        have hf := num_spec (by_drop hy _) n2
        rw [e1] at ih
        rw [show p + (formN (runA rl a - a) ++ formN (runB rl a - runA rl a) ++ pixB rl (runA rl a) (runB rl a - runA rl a) ++ encB rl (runB rl a)).length = p + (formN (runA rl a - a)).length + (formN (runB rl a - runA rl a)).length + (pixB rl (runA rl a) (runB rl a - runA rl a)).length + (encB rl (runB rl a)).length by simp only [List.length_append]; omega]
        refine .next (by omega) n1 p1 (fun q => by rw [hta]; exact hz q) (by rw [hta]; omega) ?_ p3 (by rw [hrl]; omega) (by rw [hrl, hta]; omega) ih
        rw [hta, show a + (runA rl a - a) = runA rl a by omega]
        exact .ok n2 hf.2.1 p2 (by omega) hM p3
      · rw [encB_last h1 h2] at h ⊢
        have n1 : num (bs.drop p) = some (rl.length - a, (formN (rl.length - a)).length) := by rw [h]; exact num_form _ _ (by omega)
        have e2 : rl = wE (rl.take a) (rl.length - a) := by
          have hq : runA rl a = rl.length := by omega
          rw [hq] at hE
          rw [wE, ← hE, ← List.take_add, List.take_of_length_le (by omega)]
        have := Run.last (bs := bs) (n := rl.length) (l := rl.take a) (p := p) (s := rl.length - a) (k := (formN (rl.length - a)).length) (by omega) n1 (le_of_drop h hp) (fun q => by omega) (by omega)
        rwa [← e2] at this
    · rw [encB_end h1, List.take_of_length_le (by omega)]
      exact .done (Nat.le_refl _)
  termination_by k a => rl.length - a
/-- A span's bytes are read to their end, as the span. -/
theorem enc_dec {l : List Px} (hg : Gd l) : ∃ k, num (rleB l) = some (l.length, k) ∧ k ≤ (rleB l).length ∧ Run (rleB l) l.length [] k l (rleB l).length false := by
  have h4 := hg.sp.1
  have hle := rleB_le hg
  refine ⟨(formN l.length).length, ?_, by rw [rleB, List.length_append]; omega, ?_⟩
  · exact num_form _ _ (by omega)
  · have hm : Okp l := fun x hx => by
      obtain ⟨i, hi, rfl⟩ := mem_getD hx
      exact ⟨hg.sp.2 i hi, hg.wf i hi⟩
    have := run_enc (bs := rleB l) (rleB_by l) (by omega) hm (by omega) l.length 0 (formN l.length).length [] (by omega) (by omega) (by rw [rleB, List.length_append]; omega) (fun h => by omega) (by rw [rleB, List.append_nil]; exact List.drop_left' rfl)
    rw [List.take_zero] at this
    rwa [show (formN l.length).length + (encB l 0).length = (rleB l).length by rw [rleB, List.length_append]] at this
end Go.Proofs.Ytnmkpekfkfckoaa
