/- mullionlaw16.wrong at the bytes of RleNames, each reckoned by itself. -/
import Derived.Test.YtnmkpekfkfckoaaHCrz
namespace Go.Proofs.Ytnmkpekfkfckoaa
set_option linter.unusedSimpArgs false
set_option linter.unusedVariables false
open Go.RowKit EV
open EW (PlL PlT PlV PlVs nums plL plL_ok emp)
theorem only {c : Ctx} {s : Sf} {e : Env} {w : World} {n : Nat} {b : B} (h : RealW c s e w) (hl : s (.l n) = some (.l true)) (hb : s (.b n) = some (.b b)) (hn : b.names = []) : RealW c (upd emp [(.l n, .l true), (.b n, .b b)]) e w := by
  have hbk : ∀ k, upd emp [(.l n, .l true), (.b n, .b b)] (.b k) = if n = k then some (.b b) else none := fun k => by rw [upd_cons_ne _ _ _ (by simp), upd_cons, upd_nil]; simp; rfl
  have hlk : ∀ k, upd emp [(.l n, .l true), (.b n, .b b)] (.l k) = if n = k then some (.l true) else none := fun k => by rw [upd_cons, upd_cons_ne _ _ _ (by simp), upd_nil]; simp; rfl
  refine ⟨fun k b1 h1 h2 => ?_, fun k k' b1 b2 h1 h2 h3 h4 hne ho => ?_, fun k b1 h1 h2 ho => ?_, ⟨fun q x hq m hm => ?_, fun k hx => ?_⟩, h.given, h.os, h.tape, h.output, h.size, h.old⟩
  · rw [hbk] at h2
    split at h2
    · rename_i e1; subst e1; cases h2
      exact (h.blk n b hl hb).mono (fun m hm => by rw [hn] at hm; cases hm) .rfl (fun _ => rfl)
    · cases h2
  · rw [hbk] at h2 h4
    split at h2
    · split at h4
      · rename_i e1 e2; exact absurd (e1.symm.trans e2) hne
      · cases h4
    · cases h2
  · rw [hbk] at h2
    split at h2
    · rename_i e1; subst e1; cases h2
      exact h.own n b hl hb ho
    · cases h2
  · cases q with
    | t i => rw [upd_cons_ne _ _ _ (by simp), upd_cons_ne _ _ _ (by simp), upd_nil] at hq; cases hq
    | l i =>
      rw [hlk] at hq
      split at hq
      · cases hq; cases hm
      · cases hq
    | b i =>
      rw [hbk] at hq
      split at hq
      · cases hq; rw [show (KV.b b).names = b.names from rfl, hn] at hm; cases hm
      · cases hq
  · rw [hbk] at hx
    split at hx
    · rename_i e1; subst e1; rw [hlk, if_pos rfl]; simp
    · exact absurd rfl hx
noncomputable def hp0 (bs : List Int) : Hp := match T.put 40 (.e : Hp) 0 (true, .w true (nums .u8 bs)) with
  | some h => h
  | none => .e
theorem hp0_put (bs : List Int) : T.put 40 (.e : Hp) 0 (true, .w true (nums .u8 bs)) = some (hp0 bs) := rfl
theorem hp0_lk (bs : List Int) : lk .e (hp0 bs) = upd emp [(.l 0, .l true), (.b 0, .b (.w true (nums .u8 bs)))] := by
  rw [lk_put (hp0_put bs)]
  congr 1
  funext q
  cases q <;> rfl
noncomputable def wrE (bs : List Int) : Bool := match (EW.evZ Try.prog EV.noX crcZ 3000).F 29 [.c (.s 0 0 bs.length bs.length)] (hp0 bs) 1 with
  | some (.c (.v (.bool true)), h', nx', _) => Nat.ble nx' 4096 && (match h'.get 0 with
    | some (true, b) => match wsOf8 b with
      | some bs' => decide (bs' = bs)
      | none => false
    | _ => false)
  | _ => false
theorem wrE_ok {bs : List Int} (h : wrE bs = true) : CT Try.prog 29 [.c (.s 0 0 bs.length bs.length)] (upd emp [(.l 0, .l true), (.b 0, .b (.w true (nums .u8 bs)))]) 1 4096 (.c (.v (.bool true))) (upd (upd emp [(.l 0, .l true), (.b 0, .b (.w true (nums .u8 bs)))]) []) := by
  unfold wrE at h
  split at h
  · rename_i h' nx' wl hev
    rw [Bool.and_eq_true] at h
    obtain ⟨h1, h2⟩ := h
    split at h2
    · rename_i b hg
      split at h2
      · rename_i bs' hb
        obtain rfl := of_decide_eq_true h2
        obtain rfl := wsOf8_ok hb
        obtain ⟨_, ⟨t', hct⟩, _⟩ := (EW.evZ_ok enters EV.noX_ok crcZ_ok 3000).2 _ _ _ _ _ _ _ _ hev (fun n hn => by rw [T.get_put _ _ _ _ _ n (hp0_put bs'), if_neg (by omega)]; simp [T.get_e])
        rw [hp0_lk] at hct
        intro c e w us hP hm hW hu hn
        refine (hct c e w us hP (fun n a1 a2 => hm n a1 (Nat.lt_of_lt_of_le a2 (Nat.le_of_ble_eq_true h1))) hW hu hn).mono ?_
        rintro en w' ⟨u, e', rfl, r1, r2, r3⟩
        refine ⟨u, e', rfl, ?_, OkV.mono (fun n hn => by cases hn) r2, fun n hn => by cases hn⟩
        rw [upd_nil]
        exact only r1 (lk_l.2 ⟨_, hg⟩) (lk_b.2 ⟨_, hg⟩) rfl
      · cases h2
    · cases h2
  · cases h
def wlits : List (List Int) := [[2, 1], [2, 1, 0], [129, 32], [1, 1, 0], [1, 2], [2, 1, 1, 128, 128, 128, 8], [2, 0, 1, 5, 1, 0, 0, 0, 1, 5, 1, 0, 0], [1, 0, 2, 5, 1, 0, 0, 5, 1, 0, 0], [2, 1, 1, 5, 1, 0], [2, 0, 0], [3, 1, 1, 5, 1, 0, 0]]
theorem wl0 : wrE [2, 1] = true := by kernel_rfl
theorem wl1 : wrE [2, 1, 0] = true := by kernel_rfl
theorem wl2 : wrE [129, 32] = true := by kernel_rfl
theorem wl3 : wrE [1, 1, 0] = true := by kernel_rfl
theorem wl4 : wrE [1, 2] = true := by kernel_rfl
theorem wl5 : wrE [2, 1, 1, 128, 128, 128, 8] = true := by kernel_rfl
theorem wl6 : wrE [2, 0, 1, 5, 1, 0, 0, 0, 1, 5, 1, 0, 0] = true := by kernel_rfl
theorem wl7 : wrE [1, 0, 2, 5, 1, 0, 0, 5, 1, 0, 0] = true := by kernel_rfl
theorem wl8 : wrE [2, 1, 1, 5, 1, 0] = true := by kernel_rfl
theorem wl9 : wrE [2, 0, 0] = true := by kernel_rfl
theorem wl10 : wrE [3, 1, 1, 5, 1, 0, 0] = true := by kernel_rfl
theorem wl_all : ∀ bs ∈ wlits, wrE bs = true := by
  intro bs hbs
  simp only [wlits, List.mem_cons, List.not_mem_nil, or_false] at hbs
  rcases hbs with rfl | rfl | rfl | rfl | rfl | rfl | rfl | rfl | rfl | rfl | rfl
  · exact wl0
  · exact wl1
  · exact wl2
  · exact wl3
  · exact wl4
  · exact wl5
  · exact wl6
  · exact wl7
  · exact wl8
  · exact wl9
  · exact wl10
end Go.Proofs.Ytnmkpekfkfckoaa
