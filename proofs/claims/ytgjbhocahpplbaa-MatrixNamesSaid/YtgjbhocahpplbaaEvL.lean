/- A state as trees; what operations make of it. No program in sight. -/
import Derived.Test.YtgjbhocahpplbaaEvK
namespace Go.Proofs.Ytgjbhocahpplbaa.EV
noncomputable section
open Go.RowKit

abbrev Hp := T (Bool × B)
/-- What trees hold, as a state. -/
def lk (t : T V) (h : Hp) : Sf
  | .t i => match t.get i with
    | some v => some (.v v)
    | none => none
  | .b n => match h.get n with
    | some (_, b) => some (.b b)
    | none => none
  | .l n => match h.get n with
    | some (a, _) => some (.l a)
    | none => none
structure ES where
  t : T V
  h : Hp
  nx : Nat
  wl : List Nat
  fm : List Nat
/-- How a heap comes out of another. -/
structure Ext (h : Hp) (nx : Nat) (wl : List Nat) (h' : Hp) (nx' : Nat) (wl' : List Nat) : Prop where
  le : nx ≤ nx'
  inv : ∀ n, nx' ≤ n → h'.get n = none
  al : ∀ n, h.get n ≠ none → h'.get n ≠ none
  rev : ∀ n, n < nx → ∀ b, h'.get n = some (true, b) → ∃ b0, h.get n = some (true, b0)
  own : ∀ n l b, h'.get n = some (l, b) → (∃ l0, h.get n = some (l0, b)) ∨ b.own = true
  sub : ∀ n ∈ wl, n ∈ wl'
  un : ∀ n, n ∉ wl' → h'.get n = h.get n
theorem Ext.refl {h : Hp} {nx : Nat} {wl : List Nat} (hi : ∀ n, nx ≤ n → h.get n = none) : Ext h nx wl h nx wl :=
  ⟨Nat.le_refl _, hi, fun _ h => h, fun _ _ b h => ⟨b, h⟩, fun _ l _ h => .inl ⟨l, h⟩, fun _ h => h, fun _ _ => rfl⟩
theorem Ext.trans {h h1 h2 : Hp} {nx nx1 nx2 : Nat} {wl wl1 wl2 : List Nat} (a : Ext h nx wl h1 nx1 wl1) (b : Ext h1 nx1 wl1 h2 nx2 wl2) : Ext h nx wl h2 nx2 wl2 := by
  refine ⟨Nat.le_trans a.le b.le, b.inv, fun n hn => b.al n (a.al n hn), fun n hn x hx => ?_, fun n l x hx => ?_, fun n hn => b.sub n (a.sub n hn), fun n hn => ?_⟩
  · obtain ⟨b0, h0⟩ := b.rev n (Nat.lt_of_lt_of_le hn a.le) x hx
    exact a.rev n hn b0 h0
  · rcases b.own n l x hx with ⟨l0, h0⟩ | h0
    · exact a.own n l0 x h0
    · exact .inr h0
  · rw [b.un n hn, a.un n fun h => hn (b.sub n h)]
theorem lk_t {t : T V} {h : Hp} {i : Nat} {v : V} : lk t h (.t i) = some (.v v) ↔ t.get i = some v := by
  simp only [lk]; split <;> simp_all
theorem lk_l {t : T V} {h : Hp} {n : Nat} {a : Bool} : lk t h (.l n) = some (.l a) ↔ ∃ b, h.get n = some (a, b) := by
  simp only [lk]; split <;> simp_all
theorem lk_b {t : T V} {h : Hp} {n : Nat} {b : B} : lk t h (.b n) = some (.b b) ↔ ∃ a, h.get n = some (a, b) := by
  simp only [lk]; split <;> simp_all
theorem lk_l0 {t : T V} {h : Hp} {n : Nat} : lk t h (.l n) = none ↔ h.get n = none := by
  simp only [lk]; split <;> simp_all
theorem lk_b0 {t : T V} {h : Hp} {n : Nat} : lk t h (.b n) = none ↔ h.get n = none := by
  simp only [lk]; split <;> simp_all

/-- A block, written out. -/
def fcK : B → Option B
  | .m o l => match fcLs fcC l with
    | some r => some (.m o r)
    | none => none
  | .w o l => match fcLs fcX l with
    | some r => some (.w o r)
    | none => none
  | b => some b
theorem fcK_eq {x y : B} (h : fcK x = some y) : x = y := by
  cases x with
  | m o l =>
    simp only [fcK] at h
    split at h
    · rename_i r hr; cases h; rw [fcLs_eq (fun x y h => fcC_eq h) hr]
    · cases h
  | w o l =>
    simp only [fcK] at h
    split at h
    · rename_i r hr; cases h; rw [fcLs_eq (fun x y h => fcX_eq h) hr]
    · cases h
  | lp r => simp only [fcK] at h; cases h; rfl
  | df => simp only [fcK] at h; cases h; rfl
/-- A value laid into a slot. -/
def putT (t : T V) (d : Option Tmp) (v : V) : Option (T V) := match d with
  | none => some t
  | some i => match fcV v with
    | some v' => T.put 40 t i v'
    | none => none
theorem putT_get {t t' : T V} {d : Option Tmp} {v : V} (h : putT t d v = some t') (i : Nat) : t'.get i = if d = some i then some v else t.get i := by
  unfold putT at h
  cases d with
  | none => cases h; rw [if_neg (by simp)]
  | some j =>
    simp only at h
    split at h
    · rename_i v' hv
      rw [T.get_put _ _ _ _ _ i h, ← fcV_eq hv]
      simp
    · cases h
theorem putT_lk {t t' : T V} {d : Option Tmp} {v : V} (h : putT t d v = some t') (hp : Hp) : lk t' hp = upd (lk t hp) (putW d v) := by
  funext q
  cases q with
  | t i =>
    simp only [lk, putT_get h i]
    cases d with
    | none => rw [if_neg (by simp)]; simp only [putW, upd_nil]; rfl
    | some j =>
      simp only [putW, upd_cons, upd_nil]
      by_cases hj : j = i
      · subst hj; simp
      · rw [if_neg (by simpa using hj), if_neg (by simpa using hj)]; rfl
  | b n => cases d with
    | none => simp only [putW, upd_nil]; rfl
    | some j => rw [putW, upd_cons_ne _ _ _ (by simp), upd_nil]; rfl
  | l n => cases d with
    | none => simp only [putW, upd_nil]; rfl
    | some j => rw [putW, upd_cons_ne _ _ _ (by simp), upd_nil]; rfl
/-- What becomes of the heap: the heap, the next name, who is written. -/
def applyH (h : Hp) (nx : Nat) (wl : List Nat) : Eff → Option (Hp × Nat × List Nat)
  | .no => some (h, nx, wl)
  | .new b => match fcK b, fcN (nx + 1) with
    | some b', some nx' => match b'.own, T.put 40 h nx (true, b') with
      | true, some h' => some (h', nx', nx :: wl)
      | _, _ => none
    | _, _ => none
  | .chg n b => match h.get n, fcK b with
    | some (true, _), some b' => match b'.own, T.put 40 h n (true, b') with
      | true, some h' => some (h', nx, n :: wl)
      | _, _ => none
    | _, _ => none
  | .steal n b => match h.get n, fcK b, fcN (nx + 1) with
    | some (_, b0), some b', some nx' => match b'.own, T.put 40 h n (false, b0) with
      | true, some h1 => match T.put 40 h1 nx (true, b') with
        | some h' => some (h', nx', nx :: n :: wl)
        | none => none
      | _, _ => none
    | _, _, _ => none
theorem lk_put {t : T V} {h h' : Hp} {n : Nat} {a : Bool} {b : B} (hh : T.put 40 h n (a, b) = some h') : lk t h' = upd (lk t h) [(.l n, .l a), (.b n, .b b)] := by
  funext q
  cases q with
  | t i => rw [upd_cons_ne _ _ _ (by simp), upd_cons_ne _ _ _ (by simp), upd_nil]; rfl
  | b k =>
    rw [upd_cons_ne _ _ _ (by simp), upd_cons, upd_nil]
    simp only [lk, T.get_put _ _ _ _ _ k hh]
    by_cases hk : n = k
    · subst hk; simp
    · rw [if_neg hk, if_neg (by simpa using hk)]
  | l k =>
    rw [upd_cons, upd_cons_ne _ _ _ (by simp), upd_nil]
    simp only [lk, T.get_put _ _ _ _ _ k hh]
    by_cases hk : n = k
    · subst hk; simp
    · rw [if_neg hk, if_neg (by simpa using hk)]
theorem Ext.new {h h' : Hp} {nx : Nat} {wl : List Nat} {b : B} (hi : ∀ n, nx ≤ n → h.get n = none) (ho : b.own = true) (hh : T.put 40 h nx (true, b) = some h') : Ext h nx wl h' (nx + 1) (nx :: wl) := by
  have hg := fun k => T.get_put _ _ _ _ _ k hh
  refine ⟨by omega, fun n hn => ?_, fun n hn => ?_, fun n hn x hx => ?_, fun n l x hx => ?_, fun n hn => List.mem_cons_of_mem _ hn, fun n hn => ?_⟩
  · rw [hg, if_neg (by omega)]; exact hi n (by omega)
  · rw [hg]; split
    · simp
    · exact hn
  · rw [hg, if_neg (by omega)] at hx; exact ⟨x, hx⟩
  · rw [hg] at hx; split at hx
    · cases hx; exact .inr ho
    · exact .inl ⟨l, hx⟩
  · rw [hg, if_neg (fun e => hn (by simp [e]))]
theorem Ext.set {h h' : Hp} {n0 nx : Nat} {wl : List Nat} {b b0 : B} {a a0 : Bool} (hi : ∀ n, nx ≤ n → h.get n = none) (h0 : h.get n0 = some (a0, b0)) (ha : a = true → a0 = true) (ho : b = b0 ∨ b.own = true) (hh : T.put 40 h n0 (a, b) = some h') : Ext h nx wl h' nx (n0 :: wl) := by
  have hg := fun k => T.get_put _ _ _ _ _ k hh
  refine ⟨Nat.le_refl _, fun n hn => ?_, fun n hn => ?_, fun n hn x hx => ?_, fun n l x hx => ?_, fun n hn => List.mem_cons_of_mem _ hn, fun n hn => ?_⟩
  · rw [hg, if_neg (fun e => by subst e; rw [hi n0 hn] at h0; cases h0)]; exact hi n hn
  · rw [hg]; split
    · simp
    · exact hn
  · rw [hg] at hx; split at hx
    · rename_i e; subst e; cases hx; rw [ha rfl] at h0; exact ⟨_, h0⟩
    · exact ⟨x, hx⟩
  · rw [hg] at hx; split at hx
    · rename_i e; subst e; cases hx
      rcases ho with rfl | ho
      · exact .inl ⟨_, h0⟩
      · exact .inr ho
    · exact .inl ⟨l, hx⟩
  · rw [hg, if_neg (fun e => hn (by simp [e]))]
theorem upd_same {s : Sf} {k : Key} {x : KV} (h : s k = some x) (r : Ws) (hr : lookW r k = none) : upd s ((k, x) :: r) = upd s r := by
  funext q
  rw [upd_cons]
  split
  · rename_i e; subst e; simp [upd, hr, h]
  · rfl
theorem applyH_ok {t : T V} {h h' : Hp} {nx nx' : Nat} {wl wl' : List Nat} {eff : Eff} (ha : applyH h nx wl eff = some (h', nx', wl')) (hi : ∀ n, nx ≤ n → h.get n = none) : lk t h' = upd (lk t h) (eff.ws nx) ∧ Ext h nx wl h' nx' wl' := by
  cases eff with
  | no => cases ha; exact ⟨(upd_nil _).symm, .refl hi⟩
  | new b =>
    simp only [applyH] at ha
    split at ha
    · rename_i b' nx2 hb hn
      split at ha
      · rename_i ho hh
        cases ha
        obtain rfl := fcK_eq hb
        obtain rfl := fcN_eq hn
        exact ⟨lk_put hh, .new hi ho hh⟩
      · cases ha
    · cases ha
  | chg n b =>
    simp only [applyH] at ha
    split at ha
    · rename_i b0 b' h0 hb
      split at ha
      · rename_i ho hh
        cases ha
        obtain rfl := fcK_eq hb
        refine ⟨?_, .set hi h0 (fun h => h) (.inr ho) hh⟩
        rw [lk_put hh, upd_same (lk_l.2 ⟨_, h0⟩) _ (by simp [lookW, Key.beq])]; rfl
      · cases ha
    · cases ha
  | steal n b =>
    simp only [applyH] at ha
    split at ha
    · rename_i l0 b0 b' nx2 h0 hb hn
      split at ha
      · rename_i h1 ho h1h
        split at ha
        · rename_i h2 hh
          cases ha
          obtain rfl := fcK_eq hb
          obtain rfl := fcN_eq hn
          have e1 := Ext.set (wl := wl) hi h0 (fun h => by cases h) (.inl rfl) h1h
          refine ⟨?_, e1.trans (.new e1.inv ho hh)⟩
          have hne : n ≠ nx := fun e => by subst e; rw [hi n (Nat.le_refl _)] at h0; cases h0
          rw [lk_put hh, lk_put h1h]
          show upd (upd (lk t h) [(.l n, .l false), (.b n, .b b0)]) (wsNew nx b) = upd (lk t h) (wsSteal n nx b)
          rw [steal_eq hne]
          congr 1
          funext q
          rw [upd_cons, upd_cons, upd_cons, upd_nil]
          split
          · rfl
          · split
            · rename_i e; subst e; exact (lk_b.2 ⟨_, h0⟩).symm
            · rfl
        · cases ha
      · cases ha
    · cases ha
/-- What an operation makes of a state. -/
def applyE (S : ES) (d : Option Tmp) (v : V) (eff : Eff) : Option ES := match S with
  | ⟨t, h, nx, wl, fm⟩ => match putT t d v, applyH h nx wl eff with
    | some t', some (h', nx', wl') => some ⟨t', h', nx', wl', fm⟩
    | _, _ => none
def ES.s (S : ES) : Sf := lk S.t S.h
def ES.Inv (S : ES) : Prop := ∀ n, S.nx ≤ n → S.h.get n = none
theorem applyE_ok {S S' : ES} {d : Option Tmp} {v : V} {eff : Eff} (ha : applyE S d v eff = some S') (hi : S.Inv) : S'.s = upd S.s (putW d v ++ eff.ws S.nx) ∧ Ext S.h S.nx S.wl S'.h S'.nx S'.wl ∧ S'.fm = S.fm := by
  obtain ⟨t, h, nx, wl, fm⟩ := S
  simp only [applyE] at ha
  split at ha
  · rename_i t' h' nx' wl' ht hh
    cases ha
    obtain ⟨h1, h2⟩ := applyH_ok (t := t) hh hi
    refine ⟨?_, h2, rfl⟩
    show lk t' h' = upd (lk t h) _
    rw [upd_append, ← h1, putT_lk ht]
  · cases ha
theorem applyE_fresh {S S' : ES} {d : Option Tmp} {v : V} {eff : Eff} (ha : applyE S d v eff = some S') (hf : eff.fresh = true) : S.nx < S'.nx := by
  obtain ⟨t, h, nx, wl, fm⟩ := S
  simp only [applyE] at ha
  split at ha
  · rename_i t' h' nx' wl' ht hh
    cases ha
    cases eff with
    | no => cases hf
    | chg n b => cases hf
    | new b =>
      simp only [applyH] at hh
      split at hh
      · rename_i hb hn
        split at hh
        · cases hh; rw [← fcN_eq hn]; exact Nat.lt_succ_self _
        · cases hh
      · cases hh
    | steal n b =>
      simp only [applyH] at hh
      split at hh
      · rename_i h0 hb hn
        split at hh
        · split at hh
          · cases hh; rw [← fcN_eq hn]; exact Nat.lt_succ_self _
          · cases hh
        · cases hh
      · cases hh
  · cases ha
end
end Go.Proofs.Ytgjbhocahpplbaa.EV
