import Derived.Test.YtnmkpekfkfckoaaHRlV
import Derived.Test.YtnmkpekfkfckoaaHRlI
import Derived.Test.YtnmkpekfkfckoaaHPkW
/- rle: what is read of a span's bytes, and the bytes of what was read: plain laws. -/
namespace Go.Proofs.Ytnmkpekfkfckoaa
set_option linter.unusedSimpArgs false
set_option linter.unusedVariables false
open Go.RowKit EV
open EW (nums)
set_option maxRecDepth 20000
theorem takeP_enc {p : Px} (hm : p.may) (hw : p.wf) (t : List Int) : takeP (encP p ++ t) = some (p, (encP p).length) := by
  rcases px_nat hm hw with rfl | ⟨z, o, t', c, rfl, hz, ho, ht, hc⟩
  · rw [encP_e, takeP, num_form _ _ (by omega)]; dsimp only; rw [if_pos rfl]
  · rw [encP_n hz]
    have e0 : formN z ++ formN o ++ formN t' ++ formN c ++ t = formN z ++ (formN o ++ (formN t' ++ (formN c ++ t))) := by simp only [List.append_assoc]
    rw [e0]
    have n0 := num_form z (formN o ++ (formN t' ++ (formN c ++ t))) (by omega)
    have d1 : (formN z ++ (formN o ++ (formN t' ++ (formN c ++ t)))).drop (formN z).length = formN o ++ (formN t' ++ (formN c ++ t)) := List.drop_left' rfl
    have d2 : (formN z ++ (formN o ++ (formN t' ++ (formN c ++ t)))).drop ((formN z).length + (formN o).length) = formN t' ++ (formN c ++ t) := by
      rw [← List.drop_drop, d1]; exact List.drop_left' rfl
    have d3 : (formN z ++ (formN o ++ (formN t' ++ (formN c ++ t)))).drop ((formN z).length + (formN o).length + (formN t').length) = formN c ++ t := by
      rw [← List.drop_drop, d2]; exact List.drop_left' rfl
    have n1 := num_form o (formN t' ++ (formN c ++ t)) (by omega)
    have n2 := num_form t' (formN c ++ t) (by omega)
    have n3 := num_form c t (by omega)
    unfold takeP
    rw [n0]; dsimp only
    rw [if_neg (by omega), if_neg (by omega), d1, n1]; dsimp only
    rw [if_neg (by omega), d2, n2]; dsimp only
    rw [if_neg (by omega), d3, n3]; dsimp only
    rw [if_neg (by omega)]
    simp only [List.length_append]
/-- Pixels that are set, and may be. -/
abbrev Brt (l : List Px) : Prop := ∀ x ∈ l, ¬ x.emp ∧ x.may ∧ x.wf
abbrev Okp (l : List Px) : Prop := ∀ x ∈ l, x.may ∧ x.wf
theorem emp_pE {x : Px} (h : x.emp) (hm : x.may) : x = pE := by
  obtain ⟨z, o, t, c⟩ := x
  unfold Px.emp at h
  unfold Px.may at hm
  dsimp only at *
  rcases hm with ⟨a1, a2, _⟩ | ⟨rfl, rfl, rfl, rfl⟩
  · omega
  · rfl
theorem bry_of {bs : List Int} {p k : Nat} {x : Px} (hy : By bs) (hl : bs.length ≤ 1000000) (hp : p ≤ bs.length) (h : takeP (bs.drop p) = some (x, k)) (he : ¬ x.emp) : BrY bs p x k := by
  obtain ⟨k0, k1, hm, hw, hT⟩ := itake_ok bs p (bs.length - p) hy (by omega) hl x k h
  rw [show bs.length - p - k = bs.length - (p + k) by omega] at hT
  exact ⟨h, he, k0, by omega, hm, hw, bright_any bs p (p + k) false x hT he⟩
theorem drop_of {bs a t : List Int} {p : Nat} (h : bs.drop p = a ++ t) : bs.drop (p + a.length) = t := by
  rw [← List.drop_drop, h]; exact List.drop_left' rfl
theorem le_of_drop {bs a t : List Int} {p : Nat} (h : bs.drop p = a ++ t) (hp : p ≤ bs.length) : p + a.length ≤ bs.length := by
  have := congrArg List.length h
  rw [List.length_drop, List.length_append] at this; omega
theorem mny_enc {bs : List Int} (hy : By bs) (hl : bs.length ≤ 1000000) (c : Nat) : ∀ (t ps : List Px) (p : Nat) (u : List Int), Brt t → p ≤ bs.length → bs.drop p = t.flatMap encP ++ u → ps.length + t.length = c → Mny bs c ps p (ps ++ t) (p + (t.flatMap encP).length) false
  | [], ps, p, u, _, _, _, hc => by
    rw [List.append_nil]; exact .done (by simpa using hc)
  | x :: t, ps, p, u, hB, hp, h, hc => by
    rw [List.flatMap_cons, List.append_assoc] at h
    obtain ⟨b1, b2, b3⟩ := hB x (by simp)
    have hT : takeP (bs.drop p) = some (x, (encP x).length) := by rw [h]; exact takeP_enc b2 b3 _
    have := mny_enc hy hl c t (ps ++ [x]) (p + (encP x).length) u (fun y hy => hB y (by simp [hy])) (le_of_drop h hp) (drop_of h) (by rw [List.length_append, List.length_singleton]; rw [List.length_cons] at hc; omega)
    rw [List.flatMap_cons, List.length_append, ← Nat.add_assoc, show ps ++ x :: t = ps ++ [x] ++ t by simp]
    exact .next (by rw [List.length_cons] at hc; omega) (bry_of hy hl hp hT b1) this
theorem getD_mem {l : List Px} {i : Nat} (h : i < l.length) : l.getD i Px.zero ∈ l := by
  rw [List.getD_eq_getElem?_getD, List.getElem?_eq_getElem h]; exact List.getElem_mem h
theorem mem_getD {l : List Px} {x : Px} (h : x ∈ l) : ∃ i, i < l.length ∧ l.getD i Px.zero = x := by
  obtain ⟨i, hi, e⟩ := List.getElem_of_mem h
  exact ⟨i, hi, by rw [List.getD_eq_getElem?_getD, List.getElem?_eq_getElem hi, ← e]; rfl⟩
theorem empties {rl : List Px} (hm : Okp rl) (a : Nat) (h : a ≤ rl.length) : (rl.drop a).take (runA rl a - a) = List.replicate (runA rl a - a) pE := by
  have hle := skipE_le (rl.drop a)
  have hs : runA rl a - a = skipE (rl.drop a) := by unfold runA; omega
  rw [hs]
  rw [List.eq_replicate_iff]
  refine ⟨by rw [List.length_take]; omega, fun x hx => ?_⟩
  obtain ⟨i, hi, rfl⟩ := mem_getD hx
  rw [List.length_take] at hi
  have e : ((rl.drop a).take (skipE (rl.drop a))).getD i Px.zero = (rl.drop a).getD i Px.zero := by
    rw [List.getD_eq_getElem?_getD, List.getElem?_take_of_lt (by omega), List.getD_eq_getElem?_getD]
  rw [e]
  exact emp_pE (skipE_in _ i (by omega)) (hm _ (List.mem_of_mem_drop (getD_mem (by omega)))).1
theorem brights {rl : List Px} (hm : Okp rl) (b k : Nat) (hk : k ≤ skipS (rl.drop b)) : Brt ((rl.drop b).take k) := fun x hx => by
  obtain ⟨i, hi, rfl⟩ := mem_getD hx
  rw [List.length_take] at hi
  have e : ((rl.drop b).take k).getD i Px.zero = (rl.drop b).getD i Px.zero := by
    rw [List.getD_eq_getElem?_getD, List.getElem?_take_of_lt (by omega), List.getD_eq_getElem?_getD]
  rw [e]
  exact ⟨skipS_in _ i (by omega), hm _ (List.mem_of_mem_drop (getD_mem (by omega)))⟩
theorem run_enc {bs : List Int} (hy : By bs) (hl : bs.length ≤ 1000000) {rl : List Px} (hm : Okp rl) (hn : rl.length ≤ 4096) : ∀ (k a p : Nat) (t : List Int), rl.length - a ≤ k → a ≤ rl.length → p ≤ bs.length → (0 < a → a < rl.length → (rl.getD a Px.zero).emp) → bs.drop p = encB rl a ++ t → Run bs rl.length (rl.take a) p rl (p + (encB rl a).length) false
  | k, a, p, t, hk, ha, hp, h0, h => by
    have hta : (rl.take a).length = a := by rw [List.length_take]; omega
    by_cases h1 : a < rl.length
    · have hA := runA_le ha
      have hE := empties hm a ha
      have hz : runA rl a - a = 0 → a = 0 := fun hz => by
        rcases Nat.eq_zero_or_pos a with h | h
        · exact h
        · have := runA_emp h1 (h0 h h1)
          have := runA_le (l := rl) (a := a + 1) (by omega)
          omega
      by_cases h2 : runA rl a < rl.length
      · have hB := runB_gt h2
        have e1 : rl.take (runB rl a) = wE (rl.take a) (runA rl a - a) ++ (rl.drop (runA rl a)).take (runB rl a - runA rl a) := by
          rw [wE, ← hE, ← List.take_add, show a + (runA rl a - a) = runA rl a by omega, ← List.take_add, show runA rl a + (runB rl a - runA rl a) = runB rl a by omega]
        have hbr := brights hm (runA rl a) (runB rl a - runA rl a) (by unfold runB; omega)
        have hrl : ((rl.drop (runA rl a)).take (runB rl a - runA rl a)).length = runB rl a - runA rl a := by rw [List.length_take, List.length_drop]; omega
        have hb0 : 0 < runB rl a → runB rl a < rl.length → (rl.getD (runB rl a) Px.zero).emp := fun _ hlt => by
          have := skipS_at (rl.drop (runA rl a)) (by rw [List.length_drop]; unfold runB at hlt; omega)
          rwa [drop_getD] at this
        rw [encB_run h1 h2] at h ⊢
        have e9 : formN (runA rl a - a) ++ formN (runB rl a - runA rl a) ++ pixB rl (runA rl a) (runB rl a - runA rl a) ++ encB rl (runB rl a) ++ t = formN (runA rl a - a) ++ (formN (runB rl a - runA rl a) ++ (pixB rl (runA rl a) (runB rl a - runA rl a) ++ (encB rl (runB rl a) ++ t))) := by simp only [List.append_assoc]
        rw [e9] at h
        have p1 := le_of_drop h hp
        have g1 := drop_of h
        have p2 := le_of_drop g1 p1
        have g2 := drop_of g1
        have p3 := le_of_drop g2 p2
        have g3 := drop_of g2
        have ih := run_enc hy hl hm hn (k - 1) (runB rl a) _ t (by omega) (by omega) p3 hb0 g3
        have n1 : num (bs.drop p) = some (runA rl a - a, (formN (runA rl a - a)).length) := by rw [h]; exact num_form _ _ (by omega)
        have n2 : num (bs.drop (p + (formN (runA rl a - a)).length)) = some (runB rl a - runA rl a, (formN (runB rl a - runA rl a)).length) := by rw [g1]; exact num_form _ _ (by omega)
        have hM := mny_enc hy hl (runB rl a - runA rl a) _ [] _ _ hbr p2 g2 (by rw [hrl]; simp)
        rw [List.nil_append] at hM
        have hf := num_spec (by_drop hy _) n2
        rw [e1] at ih
        rw [show p + (formN (runA rl a - a) ++ formN (runB rl a - runA rl a) ++ pixB rl (runA rl a) (runB rl a - runA rl a) ++ encB rl (runB rl a)).length = p + (formN (runA rl a - a)).length + (formN (runB rl a - runA rl a)).length + (pixB rl (runA rl a) (runB rl a - runA rl a)).length + (encB rl (runB rl a)).length by simp only [List.length_append]; omega]
        refine .next (by omega) n1 p1 (fun q => by rw [hta]; exact hz q) (by rw [hta]; omega) ?_ p3 (by rw [hrl]; omega) (by rw [hrl, hta]; omega) ih
        rw [hta, show a + (runA rl a - a) = runA rl a by omega]
        exact .ok n2 hf.2.1 p2 (by omega) hM p3
      · rw [encB_last h1 h2] at h ⊢
        have n1 : num (bs.drop p) = some (rl.length - a, (formN (rl.length - a)).length) := by rw [h]; exact num_form _ _ (by omega)
        have e2 : rl = wE (rl.take a) (rl.length - a) := by
          have hq : runA rl a = rl.length := by omega
          rw [hq] at hE
          rw [wE, ← hE, ← List.take_add, List.take_of_length_le (by omega)]
        have := Run.last (bs := bs) (n := rl.length) (l := rl.take a) (p := p) (s := rl.length - a) (k := (formN (rl.length - a)).length) (by omega) n1 (le_of_drop h hp) (fun q => by omega) (by omega)
        rwa [← e2] at this
    · rw [encB_end h1, List.take_of_length_le (by omega)]
      exact .done (Nat.le_refl _)
  termination_by k a => rl.length - a
/-- A span's bytes are read to their end, as the span. -/
theorem enc_dec {l : List Px} (hg : Gd l) : ∃ k, num (rleB l) = some (l.length, k) ∧ k ≤ (rleB l).length ∧ Run (rleB l) l.length [] k l (rleB l).length false := by
  have h4 := hg.sp.1
  have hle := rleB_le hg
  refine ⟨(formN l.length).length, ?_, by rw [rleB, List.length_append]; omega, ?_⟩
  · exact num_form _ _ (by omega)
  · have hm : Okp l := fun x hx => by
      obtain ⟨i, hi, rfl⟩ := mem_getD hx
      exact ⟨hg.sp.2 i hi, hg.wf i hi⟩
    have := run_enc (bs := rleB l) (rleB_by l) (by omega) hm (by omega) l.length 0 (formN l.length).length [] (by omega) (by omega) (by rw [rleB, List.length_append]; omega) (fun h => by omega) (by rw [rleB, List.append_nil]; exact List.drop_left' rfl)
    rw [List.take_zero] at this
    rwa [show (formN l.length).length + (encB l 0).length = (rleB l).length by rw [rleB, List.length_append]] at this
end Go.Proofs.Ytnmkpekfkfckoaa
/- rle: what reading comes to, of any bytes: plain; the document's reading. -/
