/- pixel: what is taken of what was written, and the other way about: plain laws. -/
import Derived.Test.YtjcabgoanlhhnaaHPyF
namespace Go.Proofs.Ytjcabgoanlhhnaa
set_option linter.unusedSimpArgs false
set_option linter.unusedVariables false
open Go.RowKit EV
open EW (nums)
set_option maxRecDepth 20000
theorem takeP_enc {p : Px} (hm : p.may) (hw : p.wf) (t : List Int) : takeP (encP p ++ t) = some (p, (encP p).length) := by
  rcases px_nat hm hw with rfl | ⟨z, o, t', c, rfl, hz, ho, ht, hc⟩
  · rw [encP_e, takeP, num_form _ _ (by omega)]; dsimp only; rw [if_pos rfl]
  · rw [encP_n hz]
    have e0 : formN z ++ formN o ++ formN t' ++ formN c ++ t = formN z ++ (formN o ++ (formN t' ++ (formN c ++ t))) := by simp only [List.append_assoc]
    rw [e0]
    have n0 := num_form z (formN o ++ (formN t' ++ (formN c ++ t))) (by omega)
    have d1 : (formN z ++ (formN o ++ (formN t' ++ (formN c ++ t)))).drop (formN z).length = formN o ++ (formN t' ++ (formN c ++ t)) := List.drop_left' rfl
    have d2 : (formN z ++ (formN o ++ (formN t' ++ (formN c ++ t)))).drop ((formN z).length + (formN o).length) = formN t' ++ (formN c ++ t) := by
      rw [← List.drop_drop, d1]; exact List.drop_left' rfl
    have d3 : (formN z ++ (formN o ++ (formN t' ++ (formN c ++ t)))).drop ((formN z).length + (formN o).length + (formN t').length) = formN c ++ t := by
      rw [← List.drop_drop, d2]; exact List.drop_left' rfl
    have n1 := num_form o (formN t' ++ (formN c ++ t)) (by omega)
    have n2 := num_form t' (formN c ++ t) (by omega)
    have n3 := num_form c t (by omega)
    unfold takeP
    rw [n0]; dsimp only
    rw [if_neg (by omega), if_neg (by omega), d1, n1]; dsimp only
    rw [if_neg (by omega), d2, n2]; dsimp only
    rw [if_neg (by omega), d3, n3]; dsimp only
    rw [if_neg (by omega)]
    simp only [List.length_append]
theorem takeP_cut {l : List Int} {x : Px} {k : Nat} (hb : By l) (h : takeP l = some (x, k)) : encP x = l.take k := by
  have hT := takeP_is l
  rw [h] at hT
  cases hT with
  | e k0 h0 => rw [encP_e]; exact (num_spec hb h0).1
  | n z o t c k0 k1 k2 k3 h0 hz h1 ho h2 ht h3 o1 hc =>
    rw [encP_n hz, (num_spec hb h0).1, (num_spec (by_drop hb _) h1).1, (num_spec (by_drop hb _) h2).1, (num_spec (by_drop hb _) h3).1]
    rw [List.take_add, List.take_add, List.take_add]
theorem cat_at {l : List Px} {i : Nat} (h : i < l.length) : (l.flatMap encP).drop ((l.take i).flatMap encP).length = encP (l.getD i Px.zero) ++ (l.drop (i + 1)).flatMap encP := by
  have e : l = l.take i ++ (l.getD i Px.zero :: l.drop (i + 1)) := by
    rw [List.getD_eq_getElem?_getD, List.getElem?_eq_getElem h]
    simp
  have e2 : l.flatMap encP = (l.take i).flatMap encP ++ (encP (l.getD i Px.zero) ++ (l.drop (i + 1)).flatMap encP) := by
    conv => lhs; rw [e]
    rw [List.flatMap_append, List.flatMap_cons]
  rw [e2]; exact List.drop_left' rfl
theorem cat_next {l : List Px} {i : Nat} (h : i < l.length) : ((l.take (i + 1)).flatMap encP).length = ((l.take i).flatMap encP).length + (encP (l.getD i Px.zero)).length := by
  rw [tk1 h, List.flatMap_append, List.length_append]; simp
theorem cat_le {l : List Px} {i : Nat} : ((l.take i).flatMap encP).length ≤ (l.flatMap encP).length := by
  conv => rhs; rw [← List.take_append_drop i l, List.flatMap_append, List.length_append]
  omega
/-- The first of them that may be. -/
def wantL (l : List Px) (i : Nat) : List Px := (l.take i).filter fun p => decide p.may
theorem want_y {l : List Px} {i : Nat} (h : i < l.length) (hm : (l.getD i Px.zero).may) : wantL l (i + 1) = wantL l i ++ [l.getD i Px.zero] := by
  unfold wantL; rw [tk1 h, List.filter_append, List.filter_cons, if_pos (decide_eq_true hm), List.filter_nil]
theorem want_n {l : List Px} {i : Nat} (h : i < l.length) (hm : ¬ (l.getD i Px.zero).may) : wantL l (i + 1) = wantL l i := by
  unfold wantL; rw [tk1 h, List.filter_append, List.filter_cons, if_neg (by simpa using hm), List.filter_nil, List.append_nil]
theorem want_len (l : List Px) (i : Nat) : (wantL l i).length ≤ i := by
  unfold wantL
  exact Nat.le_trans (List.length_filter_le _ _) (by rw [List.length_take]; omega)
theorem want_ok {l : List Px} (hw : ∀ p ∈ l, p.wf) (i j : Nat) (hj : j < (wantL l i).length) : ((wantL l i).getD j Px.zero).may ∧ ((wantL l i).getD j Px.zero).wf := by
  have hmem : (wantL l i).getD j Px.zero ∈ wantL l i := by
    rw [List.getD_eq_getElem?_getD, List.getElem?_eq_getElem hj]; exact List.getElem_mem hj
  generalize (wantL l i).getD j Px.zero = p at hmem
  unfold wantL at hmem
  rw [List.mem_filter] at hmem
  exact ⟨of_decide_eq_true hmem.2, hw _ (List.mem_of_mem_take hmem.1)⟩
theorem cat_encs (l : List Px) (i : Nat) : (wantL l i).flatMap encP = encs l i := by
  unfold wantL encs
  generalize l.take i = m
  induction m with
  | nil => rfl
  | cons p m ih =>
    rw [List.filter_cons, List.flatMap_cons, ← ih, encW]
    by_cases h : p.may
    · rw [if_pos (decide_eq_true h), if_pos h, List.flatMap_cons]
    · rw [if_neg (by simpa using h), if_neg h, List.nil_append]
end Go.Proofs.Ytjcabgoanlhhnaa
