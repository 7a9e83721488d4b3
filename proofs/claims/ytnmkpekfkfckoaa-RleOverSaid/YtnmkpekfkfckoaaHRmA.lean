/- rle: what reading comes to, of any bytes: plain; the document's reading. -/
import Derived.Test.YtnmkpekfkfckoaaHRlY
import Derived.Test.YtnmkpekfkfckoaaHPkW
namespace Go.Proofs.Ytnmkpekfkfckoaa
set_option linter.unusedSimpArgs false
set_option linter.unusedVariables false
open Go.RowKit EV
open SX (Wr Tv Qu Rm Sh Is conjP eqs_iff eqs_false)
open EW (PlL PlT PlV PlVs LfV Mm Bt Opn GV YT lpOf nums)
set_option maxRecDepth 20000
theorem mny_t {bs : List Int} {c p q : Nat} {ps r : List Px} {f : Bool} (h : Mny bs c ps p r q f) (hf : f = true) : r = [] := by
  induction h with
  | done h => cases hf
  | bad _ _ => rfl
  | next h hB hM ih => exact ih hf
theorem many_t {bs : List Int} {m p q : Nat} {r : List Px} (h : ManyR bs m p r q true) : r = [] := by
  cases h with
  | ok h k0 k1 hc hM _ => exact mny_t hM rfl
  | no => rfl
theorem many_le {bs : List Int} {m p q : Nat} {r : List Px} (hy : By bs) (h : ManyR bs m p r q false) : r.length ≤ m := by
  cases h with
  | ok h k0 k1 hc hM _ =>
    obtain ⟨t, h1, h2, _⟩ := mny_dec hy hM rfl
    rw [h1, List.length_append]; omega
theorem run_ex (bs : List Int) (n : Nat) (hy : By bs) (hl : bs.length ≤ 1000000) : ∀ (j : Nat) (l : List Px) (p : Nat), n - l.length ≤ j → l.length ≤ n → p ≤ bs.length → ∃ rl rp rf, Run bs n l p rl rp rf ∧ rl.length ≤ n ∧ rp ≤ bs.length
  | j, l, p, h, h1, hp => by
    rcases Nat.lt_or_ge l.length n with hlt | hge
    · cases hq : num (bs.drop p) with
      | none => exact ⟨_, _, _, .small hlt (fun v k hv => by rw [hq] at hv; cases hv), by omega, hp⟩
      | some v =>
        obtain ⟨s, k⟩ := v
        obtain ⟨k0, k1⟩ := num_in hy hp hq
        rcases Nat.lt_or_ge (n - l.length) s with hs | hs
        · exact ⟨_, _, _, .small hlt (fun v k' hv => by rw [hq] at hv; cases hv; exact hs), by omega, hp⟩
        · by_cases hz : s = 0 ∧ 0 < l.length
          · obtain ⟨rfl, hz⟩ := hz
            exact ⟨_, _, _, .zero hlt hq k1 hz, by omega, k1⟩
          · rcases Nat.lt_or_ge (l.length + s) n with hn | hn
            · obtain ⟨r, q, f, hM, hq9⟩ := many_ex bs (n - (l.length + s)) (p + k) hy hl k1
              by_cases hr : r = []
              · subst hr
                exact ⟨_, _, _, .none hlt hq k1 (by omega) hn hM hq9, by rw [wE_len]; omega, hq9⟩
              · cases f with
                | true => exact absurd (many_t hM) hr
                | false =>
                  have hr0 : 0 < r.length := List.length_pos_iff.2 hr
                  have hrm := many_le hy hM
                  obtain ⟨rl, rp, rf, e1, e2, e3⟩ := run_ex bs n hy hl (j - 1) (wE l s ++ r) q (by rw [List.length_append, wE_len]; omega) (by rw [List.length_append, wE_len]; omega) hq9
                  exact ⟨rl, rp, rf, .next hlt hq k1 (by omega) hn hM hq9 hr0 hrm e1, e2, e3⟩
            · exact ⟨_, _, _, .last hlt hq k1 (by omega) (by omega), by rw [wE_len]; omega, k1⟩
    · exact ⟨_, _, _, .done hge, h1, hp⟩
  termination_by j l => n - l.length
  decreasing_by rw [List.length_append, wE_len]; omega
end Go.Proofs.Ytnmkpekfkfckoaa
