/- rle: what reading comes to, of any bytes: plain; the document's reading. -/
import Derived.Test.YtnmkpekfkfckoaaHRlY
import Derived.Test.YtnmkpekfkfckoaaHPkW
namespace Go.Proofs.Ytnmkpekfkfckoaa
set_option linter.unusedSimpArgs false
set_option linter.unusedVariables false
open Go.RowKit EV
open SX (Wr Tv Qu Rm Sh Is conjP eqs_iff eqs_false)
open EW (PlL PlT PlV PlVs LfV Mm Bt Opn GV YT lpOf nums)
set_option maxRecDepth 20000
theorem mny_t {bs : List Int} {c p q : Nat} {ps r : List Px} {f : Bool} (h : Mny bs c ps p r q f) (hf : f = true) : r = [] := by
  induction h with
  | done h => cases hf
  | bad _ _ => rfl
  | next h hB hM ih => exact ih hf
theorem many_t {bs : List Int} {m p q : Nat} {r : List Px} (h : ManyR bs m p r q true) : r = [] := by
  cases h with
  | ok h k0 k1 hc hM _ => exact mny_t hM rfl
  | no => rfl
theorem many_le {bs : List Int} {m p q : Nat} {r : List Px} (hy : By bs) (h : ManyR bs m p r q false) : r.length ≤ m := by
  cases h with
  | ok h k0 k1 hc hM _ =>
    obtain ⟨t, h1, h2, _⟩ := mny_dec hy hM rfl
    rw [h1, List.length_append]; omega
theorem run_ex (bs : List Int) (n : Nat) (hy : By bs) (hl : bs.length ≤ 1000000) : ∀ (j : Nat) (l : List Px) (p : Nat), n - l.length ≤ j → l.length ≤ n → p ≤ bs.length → ∃ rl rp rf, Run bs n l p rl rp rf ∧ rl.length ≤ n ∧ rp ≤ bs.length
  | j, l, p, h, h1, hp => by
    rcases Nat.lt_or_ge l.length n with hlt | hge
    · cases hq : num (bs.drop p) with
      | none => exact ⟨_, _, _, .small hlt (fun v k hv => by rw [hq] at hv; cases hv), by omega, hp⟩
      | some v =>
        obtain ⟨s, k⟩ := v
        obtain ⟨k0, k1⟩ := num_in hy hp hq
        rcases Nat.lt_or_ge (n - l.length) s with hs | hs
        · exact ⟨_, _, _, .small hlt (fun v k' hv => by rw [hq] at hv; cases hv; exact hs), by omega, hp⟩
        · by_cases hz : s = 0 ∧ 0 < l.length
          · obtain ⟨rfl, hz⟩ := hz
            exact ⟨_, _, _, .zero hlt hq k1 hz, by omega, k1⟩
          · rcases Nat.lt_or_ge (l.length + s) n with hn | hn
            · obtain ⟨r, q, f, hM, hq9⟩ := many_ex bs (n - (l.length + s)) (p + k) hy hl k1
              by_cases hr : r = []
              · subst hr
                exact ⟨_, _, _, .none hlt hq k1 (by omega) hn hM hq9, by rw [wE_len]; omega, hq9⟩
              · cases f with
                | true => exact absurd (many_t hM) hr
                | false =>
                  have hr0 : 0 < r.length := List.length_pos_iff.2 hr
                  have hrm := many_le hy hM
                  obtain ⟨rl, rp, rf, e1, e2, e3⟩ := run_ex bs n hy hl (j - 1) (wE l s ++ r) q (by rw [List.length_append, wE_len]; omega) (by rw [List.length_append, wE_len]; omega) hq9
                  exact ⟨rl, rp, rf, .next hlt hq k1 (by omega) hn hM hq9 hr0 hrm e1, e2, e3⟩
            · exact ⟨_, _, _, .last hlt hq k1 (by omega) (by omega), by rw [wE_len]; omega, k1⟩
    · exact ⟨_, _, _, .done hge, h1, hp⟩
  termination_by j l => n - l.length
  decreasing_by rw [List.length_append, wE_len]; omega
/-- How the document's pixels go on: the list, the place, whether it is lost. -/
inductive DMn (bs : List Int) (c : Nat) : Nat → List Px → Nat → Bool → List Px → Nat → Bool → Prop
  | lost {i ps p} : i ≤ c → DMn bs c i ps p true ps p true
  | done {ps p} : DMn bs c c ps p false ps p false
  | bad {i ps p q} : i < c → q ≤ bs.length → (∀ ow, CT Try.prog 48 [.c (.p 0 0)] (upd EW.emp (WD ow bs p false)) 2 2 (.a (pcl 0 0 0 0)) (upd (upd EW.emp (WD ow bs p false)) [(.b 0, .b (.m true (dcs bs.length q true)))])) → DMn bs c i ps p false (ps ++ [Px.zero]) q true
  | next {i ps p x k r q f} : i < c → p + k ≤ bs.length → takeP (bs.drop p) = some (x, k) → (∀ ow, CT Try.prog 48 [.c (.p 0 0)] (upd EW.emp (WD ow bs p false)) 2 2 (.a (pcl x.z x.o x.t x.c)) (upd (upd EW.emp (WD ow bs p false)) [(.b 0, .b (.m true (dcs bs.length (p + k) false)))])) → x.wf → DMn bs c (i + 1) (ps ++ [x]) (p + k) false r q f → DMn bs c i ps p false r q f
theorem DMn.inv {bs : List Int} {c i p q : Nat} {ps r : List Px} {l f : Bool} (h : DMn bs c i ps p l r q f) :
    (l = true ∧ r = ps ∧ q = p ∧ f = true) ∨ (l = false ∧ i = c ∧ r = ps ∧ q = p ∧ f = false)
    ∨ (l = false ∧ i < c ∧ ∃ x p' l', p' ≤ bs.length ∧ (∀ ow, CT Try.prog 48 [.c (.p 0 0)] (upd EW.emp (WD ow bs p false)) 2 2 (.a (pcl x.z x.o x.t x.c)) (upd (upd EW.emp (WD ow bs p false)) [(.b 0, .b (.m true (dcs bs.length p' l')))])) ∧ DMn bs c (i + 1) (ps ++ [x]) p' l' r q f) := by
  cases h with
  | lost h => exact .inl ⟨rfl, rfl, rfl, rfl⟩
  | done => exact .inr (.inl ⟨rfl, rfl, rfl, rfl, rfl⟩)
  | bad h h1 h2 => exact .inr (.inr ⟨rfl, h, Px.zero, _, true, h1, h2, .lost h⟩)
  | next h h1 h2 h3 h4 h5 => exact .inr (.inr ⟨rfl, h, _, _, false, h1, h3, h5⟩)
theorem dmn_ex (bs : List Int) (c : Nat) (hy : By bs) (hl : bs.length ≤ 1000000) : ∀ (n i : Nat) (ps : List Px) (p : Nat), c - i ≤ n → i ≤ c → p ≤ bs.length → ∃ r q f, q ≤ bs.length ∧ DMn bs c i ps p false r q f ∧ r.length ≤ ps.length + (c - i) ∧ (f = false → r.length = ps.length + (c - i)) ∧ ((∀ x ∈ ps, x.wf) → ∀ x ∈ r, x.wf)
  | 0, i, ps, p, h, h1, hp => by
    obtain rfl : i = c := by omega
    exact ⟨_, _, _, hp, .done, by omega, fun _ => by omega, fun h => h⟩
  | n + 1, i, ps, p, h, h1, hp => by
    rcases Nat.lt_or_ge i c with hi | hi
    · cases hT : takeP (bs.drop p) with
      | none =>
        obtain ⟨_, _, q, _, h2, _, h4⟩ := ptake_no bs p (bs.length - p) hy (by omega) hl hT
        exact ⟨_, q, true, h2, .bad hi h2 h4, by rw [List.length_append, List.length_singleton]; omega, fun h => (by cases h), fun h x hx => by
          rcases List.mem_append.1 hx with hx | hx
          · exact h x hx
          · rw [List.mem_singleton.1 hx]; decide⟩
      | some v =>
        obtain ⟨x, k⟩ := v
        obtain ⟨k0, k1, hm, hw, _, h4⟩ := ptake_ok bs p (bs.length - p) hy (by omega) hl x k hT
        obtain ⟨r, q, f, e1, e2, e3, e4, e5⟩ := dmn_ex bs c hy hl n (i + 1) (ps ++ [x]) (p + k) (by omega) (by omega) (by omega)
        rw [List.length_append, List.length_singleton] at e3 e4
        exact ⟨r, q, f, e1, .next hi (by omega) hT h4 hw e2, by omega, fun h => by have := e4 h; omega, fun h => e5 fun y hy => by
          rcases List.mem_append.1 hy with hy | hy
          · exact h y hy
          · rw [List.mem_singleton.1 hy]; exact hw⟩
    · obtain rfl : i = c := by omega
      exact ⟨_, _, _, hp, .done, by omega, fun _ => by omega, fun h => h⟩
/-- What the document's loop comes to. -/
inductive DRun (bs : List Int) (n : Nat) : List Px → Nat → Bool → List Px → Nat → Bool → Prop
  | lost {l p} : DRun bs n l p true l p true
  | done {l p} : n ≤ l.length → DRun bs n l p false l p false
  | small {l p} : l.length < n → (∀ v k, num (bs.drop p) = some (v, k) → n - l.length < v) → DRun bs n l p false l p true
  | last {l p s k} : l.length < n → num (bs.drop p) = some (s, k) → p + k ≤ bs.length → l.length + s = n → DRun bs n l p false (wE l s) (p + k) false
  | none {l p s k} : l.length < n → num (bs.drop p) = some (s, k) → p + k ≤ bs.length → l.length + s < n → (∀ v k', num (bs.drop (p + k)) = some (v, k') → n - (l.length + s) < v) → DRun bs n l p false (wE l s) (p + k) true
  | next {l p s k m k' r q f rl rp rf} : l.length < n → num (bs.drop p) = some (s, k) → p + k ≤ bs.length → l.length + s < n → num (bs.drop (p + k)) = some (m, k') → p + k + k' ≤ bs.length → m ≤ n - (l.length + s) → DMn bs m 0 (wE l s) (p + k + k') false r q f → q ≤ bs.length → r.length ≤ n → (f = false → r.length = l.length + s + m) → DRun bs n r q (f || decide (s + m = 0)) rl rp rf → DRun bs n l p false rl rp rf
theorem DRun.inv {bs : List Int} {n p rp : Nat} {l rl : List Px} {rf : Bool} (h : DRun bs n l p false rl rp rf) (hl : l.length < n) :
    ((∀ v k, num (bs.drop p) = some (v, k) → n - l.length < v) ∧ rl = l ∧ rp = p ∧ rf = true)
    ∨ ∃ s k, num (bs.drop p) = some (s, k) ∧ p + k ≤ bs.length ∧ s ≤ n - l.length ∧ (
      (l.length + s = n ∧ rl = wE l s ∧ rp = p + k ∧ rf = false)
      ∨ (l.length + s < n ∧ (∀ v k', num (bs.drop (p + k)) = some (v, k') → n - (l.length + s) < v) ∧ rl = wE l s ∧ rp = p + k ∧ rf = true)
      ∨ (l.length + s < n ∧ ∃ m k' r q f, num (bs.drop (p + k)) = some (m, k') ∧ p + k + k' ≤ bs.length ∧ m ≤ n - (l.length + s) ∧ DMn bs m 0 (wE l s) (p + k + k') false r q f ∧ q ≤ bs.length ∧ r.length ≤ n ∧ (f = false → r.length = l.length + s + m) ∧ DRun bs n r q (f || decide (s + m = 0)) rl rp rf)) := by
  cases h with
  | done h => omega
  | small _ h => exact .inl ⟨h, rfl, rfl, rfl⟩
  | last _ h h1 h2 => exact .inr ⟨_, _, h, h1, by omega, .inl ⟨h2, rfl, rfl, rfl⟩⟩
  | none _ h h1 h2 h3 => exact .inr ⟨_, _, h, h1, by omega, .inr (.inl ⟨h2, h3, rfl, rfl, rfl⟩)⟩
  | next _ h h1 h2 h3 h4 h5 h6 h7 h8 h9 h10 => exact .inr ⟨_, _, h, h1, by omega, .inr (.inr ⟨h2, _, _, _, _, _, h3, h4, h5, h6, h7, h8, h9, h10⟩)⟩
theorem DRun.fin {bs : List Int} {n p rp : Nat} {l rl : List Px} {rf : Bool} (h : DRun bs n l p false rl rp rf) (hl : n ≤ l.length) : rl = l ∧ rp = p ∧ rf = false := by
  cases h <;> first | exact ⟨rfl, rfl, rfl⟩ | (exfalso; omega)
theorem DRun.lst {bs : List Int} {n p rp : Nat} {l rl : List Px} {rf : Bool} (h : DRun bs n l p true rl rp rf) : rl = l ∧ rp = p ∧ rf = true := by
  cases h; exact ⟨rfl, rfl, rfl⟩
theorem wE_wf {l : List Px} {s : Nat} (h : ∀ x ∈ l, x.wf) : ∀ x ∈ wE l s, x.wf := fun x hx => by
  rcases List.mem_append.1 hx with hx | hx
  · exact h x hx
  · rw [List.eq_of_mem_replicate hx]; decide
theorem drun_ex (bs : List Int) (n : Nat) (hy : By bs) (hl : bs.length ≤ 1000000) : ∀ (j : Nat) (l : List Px) (p : Nat), n - l.length ≤ j → l.length ≤ n → p ≤ bs.length → (∀ x ∈ l, x.wf) → ∃ rl rp rf, DRun bs n l p false rl rp rf ∧ rl.length ≤ n ∧ rp ≤ bs.length ∧ ∀ x ∈ rl, x.wf
  | j, l, p, h, h1, hp, hw => by
    rcases Nat.lt_or_ge l.length n with hlt | hge
    · cases hq : num (bs.drop p) with
      | none => exact ⟨_, _, _, .small hlt (fun v k hv => by rw [hq] at hv; cases hv), by omega, hp, hw⟩
      | some v =>
        obtain ⟨s, k⟩ := v
        obtain ⟨k0, k1⟩ := num_in hy hp hq
        rcases Nat.lt_or_ge (n - l.length) s with hs | hs
        · exact ⟨_, _, _, .small hlt (fun v k' hv => by rw [hq] at hv; cases hv; exact hs), by omega, hp, hw⟩
        · rcases Nat.lt_or_ge (l.length + s) n with hn | hn
          · cases hq2 : num (bs.drop (p + k)) with
            | none => exact ⟨_, _, _, .none hlt hq k1 hn (fun v k' hv => by rw [hq2] at hv; cases hv), by rw [wE_len]; omega, k1, wE_wf hw⟩
            | some v2 =>
              obtain ⟨m, k'⟩ := v2
              obtain ⟨k2, k3⟩ := num_in hy k1 hq2
              rcases Nat.lt_or_ge (n - (l.length + s)) m with hm | hm
              · exact ⟨_, _, _, .none hlt hq k1 hn (fun v k' hv => by rw [hq2] at hv; cases hv; exact hm), by rw [wE_len]; omega, k1, wE_wf hw⟩
              · obtain ⟨r, q, f, e1, e2, e3, e4, e5⟩ := dmn_ex bs m hy hl m 0 (wE l s) (p + k + k') (by omega) (by omega) k3
                rw [wE_len] at e3 e4
                have e6 := e5 (wE_wf hw)
                by_cases hz : f = true ∨ s + m = 0
                · have : (f || decide (s + m = 0)) = true := by rcases hz with rfl | hz <;> simp [*]
                  exact ⟨r, q, true, .next hlt hq k1 hn hq2 k3 hm e2 e1 (by omega) (fun h => by have := e4 h; omega) (by rw [this]; exact .lost), by omega, e1, e6⟩
                · have hf : f = false := by cases f <;> simp_all
                  have : (f || decide (s + m = 0)) = false := by subst hf; simp; omega
                  have e7 := e4 hf
                  obtain ⟨rl, rp, rf, g1, g2, g3, g4⟩ := drun_ex bs n hy hl (j - 1) r q (by omega) (by omega) e1 e6
                  exact ⟨rl, rp, rf, .next hlt hq k1 hn hq2 k3 hm e2 e1 (by omega) (fun h => by omega) (by rw [this]; exact g1), g2, g3, g4⟩
          · exact ⟨_, _, _, .last hlt hq k1 (by omega), by rw [wE_len]; omega, k1, wE_wf hw⟩
    · exact ⟨_, _, _, .done hge, h1, hp, hw⟩
  termination_by j l => n - l.length
  decreasing_by omega
/-- Where the program reads, the document reads the same. -/
theorem mny_dmn {bs : List Int} {c p q : Nat} {ps r : List Px} {f : Bool} (hy : By bs) (hl : bs.length ≤ 1000000) (h : Mny bs c ps p r q f) (hf : f = false) : ∀ (i : Nat) (l : List Px), i = ps.length → p ≤ bs.length → DMn bs c i (l ++ ps) p false (l ++ r) q false := by
  induction h with
  | done h => intro i l hi hp; rw [hi, h]; exact .done
  | bad _ _ => cases hf
  | @next ps p x k r q f h hB hM ih =>
    intro i l hi hp
    obtain ⟨k0, k1, hm, hw, _, h4⟩ := ptake_ok bs p (bs.length - p) hy (by omega) hl x k hB.h
    have := ih hf (i + 1) l (by rw [List.length_append, List.length_singleton]; omega) (by omega)
    rw [← List.append_assoc] at this
    exact .next (by omega) (by omega) hB.h h4 hw this
theorem run_drun {bs : List Int} (hy : By bs) (hl : bs.length ≤ 1000000) {n p rp : Nat} {l rl : List Px} {f : Bool} (h : Run bs n l p rl rp f) (hf : f = false) : DRun bs n l p false rl rp false := by
  induction h with
  | done h => exact .done h
  | small _ _ => cases hf
  | zero _ _ _ _ => cases hf
  | none _ _ _ _ _ _ _ => cases hf
  | last h0 h1 h2 h3 h4 => exact .last h0 h1 h2 h4
  | @next l p s k r q rl rp rf h0 h1 h2 h3 h4 hM h5 h6 h7 hR ih =>
    cases hM with
    | @ok c k' _ _ _ g0 g1 g2 g3 g4 g5 =>
      obtain ⟨t, e1, e2, _⟩ := mny_dec hy g4 rfl
      rw [List.nil_append] at e1
      rw [List.length_nil, Nat.zero_add] at e2
      subst e1
      have hD := mny_dmn hy hl g4 rfl 0 (wE l s) rfl g2
      rw [List.append_nil] at hD
      refine .next h0 h1 h2 h4 g0 g2 g3 hD h5 (by rw [List.length_append, wE_len]; omega) (fun _ => by rw [List.length_append, wE_len]; omega) ?_
      rw [show (false || decide (s + c = 0)) = false by rw [decide_eq_false (by omega)]; rfl]
      exact ih hf
end Go.Proofs.Ytnmkpekfkfckoaa
