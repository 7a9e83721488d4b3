/- Calls, reckoned. No program in sight. -/
import Derived.Test.YtgjbhocahpplbaaEvL
namespace Go.Proofs.Ytgjbhocahpplbaa.EV
noncomputable section
open Go.RowKit

inductive XT where
  | normal
  | ret
  | exit (k : Nat)
def XT.ex : XT → Exit
  | .normal => .normal
  | .ret => .ret
  | .exit k => .exit k
def XT.jump : XT → Option Code
  | .normal => none
  | .ret => some .ret
  | .exit k => some (.exit k)
theorem XT.jump_ok (x : XT) : jumpOf x.ex = some x.jump := by cases x <;> rfl
/-- Code and functions, reckoned. -/
structure Rec where
  X : FuncId → Option (List Value → Option (List Value))
  C : Nat → Bool → Code → ES → Option (XT × ES)
  F : FuncId → List V → Hp → Nat → Option (V × Hp × Nat × List Nat)
structure FOk (F : Fence) (ro : Bool) : Prop where
  w : WideLike F
  r : ∀ l, F.inRound l = Fence.wide.inRound l
  room : ∀ k, F.room k
  o : ro = false → F.round = none
theorem fok_wide : FOk Fence.wide false := ⟨wide_like, fun _ => rfl, room_wide, fun _ => rfl⟩
theorem fok_round (l : Nat) : FOk (Fence.wide.inRound l) true := ⟨round_like l, fun _ => rfl, fun k d h => by simp [Fence.wide] at h, fun h => by cases h⟩
def SoundF (P : Program) (R : Rec) : Prop := ∀ f args h nx v h' nx' wl', R.F f args h nx = some (v, h', nx', wl') → (∀ n, nx ≤ n → h.get n = none) →
  Ext h nx [] h' nx' wl' ∧ (∃ t', CT P f args (lk .e h) nx nx' v (lk t' h')) ∧ ∀ args w, (callFunc f args).run P w = .ok (.enter f args) w
/-- What is said of functions that the model carries out here and now. -/
def SoundX (P : Program) (X : FuncId → Option (List Value → Option (List Value))) : Prop := ∀ f g L Z, X f = some g → g L = some Z → ∀ w, (callFunc f L.toArray).run P w = .ok (.value (.tuple Z.toArray)) w
def SoundC (P : Program) (R : Rec) : Prop := ∀ N ro code S xt S', R.C N ro code S = some (xt, S') → S.Inv →
  Ext S.h S.nx S.wl S'.h S'.nx S'.wl ∧ ∀ (c : Ctx) (F : Fence) (nn : Nat) (Q : Exit → Act → World → Prop), c.P = P → FOk F ro → c.N = N → c.fm = S.fm → (∀ n, S.nx ≤ n → n < S'.nx → ¬ c.gv n) →
    KW { c with fm := S'.fm } (Q xt.ex) S'.s → CW c F nn code Q S.s

def sameB : Bool → Bool → Bool
  | true, b => b
  | false, b => !b
theorem sameB_yes {a b : Bool} (h : sameB a b = true) : a = b := by cases a <;> cases b <;> first | rfl | cases h
theorem sameB_no {a b : Bool} (h : sameB a b = false) : a = !b := by cases a <;> cases b <;> first | rfl | cases h
theorem beq_no {n k : Nat} (h : ¬ n = k) : Nat.beq n k = false := by
  cases hb : Nat.beq n k with
  | true => exact absurd (Nat.eq_of_beq_eq_true hb) h
  | false => rfl
/-- The guard: is it carried out? -/
def gdE (ops : Array Oper) (s : Sf) : Option (Nat × Bool) → Option (Bool × List Key)
  | none => some (true, [])
  | some (j, want) => match (ops[j]?).bind (·.dst) with
    | some d => match s (.t d) with
      | some (.v (.c (.v (.bool b)))) => some (sameB b want, [.t d])
      | some (.v (.c (.v (.tuple a)))) => match a.toList with
        | [] => some (false, [.t d])
        | _ => none
      | _ => none
    | none => none
theorem gdE_yes {ops : Array Oper} {s : Sf} {g : Option (Nat × Bool)} {ks : List Key} (h : gdE ops s g = some (true, ks)) : GOk ops s g ks := by
  unfold gdE at h
  split at h
  · cases h; exact .none
  · split at h
    · rename_i hd
      split at h
      · rename_i b hv
        simp only [Option.some.injEq, Prod.mk.injEq] at h
        obtain ⟨h1, rfl⟩ := h
        exact .some hd hv (sameB_yes h1)
      · split at h <;> cases h
      · cases h
    · cases h
theorem gdE_no {c : Ctx} {F : Fence} {nn : Nat} {ops : Array Oper} {s : Sf} {i : Nat} {o : Oper} {ks : List Key} (h : gdE ops s o.guard = some (false, ks)) (hF : WideLike F) (hN : dOk c.N o.dst = true) (ho : ops[i]? = some o) : LocalI c F nn ops i s ⟨kr ks, putW o.dst (.c (.v undef))⟩ := by
  generalize hg : o.guard = g at h
  unfold gdE at h
  split at h
  · cases h
  · split at h
    · rename_i hd
      split at h
      · rename_i b hv
        simp only [Option.some.injEq, Prod.mk.injEq] at h
        obtain ⟨h1, rfl⟩ := h
        exact LocalO.skipped hF hg hd hv (sameB_no h1) hN ho
      · rename_i a hv
        split at h
        · rename_i ha
          cases h
          obtain rfl := arr0 ha
          exact LocalO.skippedU hF hg hd hv hN ho
        · cases h
      · cases h
    · cases h

def inB (X : List Nat) (n : Nat) : Bool := X.any (Nat.beq n)
theorem inB_iff {X : List Nat} {n : Nat} : inB X n = true ↔ n ∈ X := by
  simp only [inB, List.any_eq_true]
  exact ⟨fun ⟨x, h1, h2⟩ => Nat.eq_of_beq_eq_true h2 ▸ h1, fun h => ⟨n, h, by simp⟩⟩
theorem inB_no {X : List Nat} {n : Nat} : inB X n = false ↔ n ∉ X := by
  rw [← Bool.not_eq_true, inB_iff]
/-- Names hidden. -/
def maskT (h : Hp) : List Nat → Option Hp
  | [] => some h
  | n :: X => match h.get n with
    | some (_, b) => match T.put 40 h n (false, b) with
      | some h1 => maskT h1 X
      | none => none
    | none => none
theorem maskT_get : ∀ {X : List Nat} {h hm : Hp}, maskT h X = some hm → ∀ n, hm.get n = if n ∈ X then (match h.get n with | some (_, b) => some (false, b) | none => none) else h.get n
  | [], h, hm, hh, n => by cases hh; simp
  | k :: X, h, hm, hh, n => by
    simp only [maskT] at hh
    split at hh
    · rename_i a b hk
      split at hh
      · rename_i h1 hp
        have hg := T.get_put _ _ _ _ _ n hp
        rw [maskT_get hh n, hg]
        by_cases hkn : k = n
        · subst hkn; simp [hk]
        · have : ¬ n = k := fun e => hkn e.symm
          simp [hkn, this]
      · cases hh
    · cases hh
def backT (h0 h : Hp) : List Nat → Option Hp
  | [] => some h
  | n :: X => match h0.get n with
    | some p => match T.put 40 h n p with
      | some h1 => backT h0 h1 X
      | none => none
    | none => none
theorem backT_get {h0 : Hp} : ∀ {X : List Nat} {h hm : Hp}, backT h0 h X = some hm → ∀ n, hm.get n = if n ∈ X then h0.get n else h.get n
  | [], h, hm, hh, n => by cases hh; simp
  | k :: X, h, hm, hh, n => by
    simp only [backT] at hh
    split at hh
    · rename_i p hk
      split at hh
      · rename_i h1 hp
        have hg := T.get_put _ _ _ _ _ n hp
        rw [backT_get hh n, hg]
        by_cases hkn : k = n
        · subst hkn; simp [hk]
        · have : ¬ n = k := fun e => hkn e.symm
          simp [hkn, this]
      · cases hh
    · cases hh
def wsOf (h : Hp) : List Nat → Ws
  | [] => []
  | n :: l => match h.get n with
    | some (a, b) => (.l n, .l a) :: (.b n, .b b) :: wsOf h l
    | none => wsOf h l
theorem wsOf_t {h : Hp} {i : Nat} : ∀ l, lookW (wsOf h l) (.t i) = none
  | [] => rfl
  | n :: l => by
    simp only [wsOf]
    split
    · simp only [lookW, Key.beq, cond_false]; exact wsOf_t l
    · exact wsOf_t l
theorem wsOf_l {h : Hp} {k : Nat} : ∀ l, lookW (wsOf h l) (.l k) = if k ∈ l then lk .e h (.l k) else none
  | [] => rfl
  | n :: l => by
    simp only [wsOf]
    split
    · rename_i a b hn
      simp only [lookW, Key.beq, cond_false]
      by_cases hk : n = k
      · subst hk; simp [lk, hn]
      · have : ¬ k = n := fun e => hk e.symm
        have h2 := beq_no hk
        simp only [h2, cond_false, wsOf_l l, List.mem_cons, this, false_or]
    · rename_i hn
      rw [wsOf_l l]
      by_cases hk : k = n
      · subst hk; simp [lk, hn]
      · simp [hk]
theorem wsOf_b {h : Hp} {k : Nat} : ∀ l, lookW (wsOf h l) (.b k) = if k ∈ l then lk .e h (.b k) else none
  | [] => rfl
  | n :: l => by
    simp only [wsOf]
    split
    · rename_i a b hn
      simp only [lookW, Key.beq, cond_false]
      by_cases hk : n = k
      · subst hk; simp [lk, hn]
      · have : ¬ k = n := fun e => hk e.symm
        have h2 := beq_no hk
        simp only [h2, cond_false, wsOf_b l, List.mem_cons, this, false_or]
    · rename_i hn
      rw [wsOf_b l]
      by_cases hk : k = n
      · subst hk; simp [lk, hn]
      · simp [hk]
/-- A heap's state, out of who is written. -/
theorem wsOf_lk {t : T V} {h h' : Hp} {l : List Nat} (hu : ∀ n, n ∉ l → h'.get n = h.get n) (hal : ∀ n, h.get n ≠ none → h'.get n ≠ none) : lk t h' = upd (lk t h) (wsOf h' l) := by
  funext q
  cases q with
  | t i => simp only [upd, wsOf_t, Option.none_or]; rfl
  | b n =>
    simp only [upd, wsOf_b]
    by_cases hn : n ∈ l
    · rw [if_pos hn]
      cases hx : h'.get n with
      | none =>
        have : h.get n = none := by
          cases hy : h.get n with
          | none => rfl
          | some p => exact absurd hx (hal n (by rw [hy]; simp))
        simp [lk, hx, this]
      | some p => simp [lk, hx]
    · rw [if_neg hn, Option.none_or]; simp only [lk, hu n hn]
  | l n =>
    simp only [upd, wsOf_l]
    by_cases hn : n ∈ l
    · rw [if_pos hn]
      cases hx : h'.get n with
      | none =>
        have : h.get n = none := by
          cases hy : h.get n with
          | none => rfl
          | some p => exact absurd hx (hal n (by rw [hy]; simp))
        simp [lk, hx, this]
      | some p => simp [lk, hx]
    · rw [if_neg hn, Option.none_or]; simp only [lk, hu n hn]
/-- Nobody hidden is named. -/
def offB (X : List Nat) (l : List Nat) : Bool := match X with
  | [] => true
  | _ => l.all fun n => !inB X n
theorem offB_ok {X l : List Nat} (h : offB X l = true) : ∀ n ∈ l, inB X n = false := by
  intro n hn
  cases X with
  | nil => rfl
  | cons x X => simp only [offB] at h; simpa using List.all_eq_true.1 h n hn
def offH (X : List Nat) (h : Hp) : Bool := match X with
  | [] => true
  | _ => h.all fun p => p.2.names.all fun n => !inB X n
theorem offH_ok {X : List Nat} {h : Hp} (ha : offH X h = true) {n : Nat} {a : Bool} {b : B} (hn : h.get n = some (a, b)) : ∀ m ∈ b.names, inB X m = false := by
  intro m hm
  cases X with
  | nil => rfl
  | cons x X =>
    simp only [offH] at ha
    have := T.all_get ha hn
    simpa using List.all_eq_true.1 this m hm
def offL (X : List Nat) (h : Hp) (l : List Nat) : Bool := match X with
  | [] => true
  | _ => l.all fun n => !inB X n && (match h.get n with
    | some (_, b) => b.names.all fun m => !inB X m
    | none => true)
theorem offL_ok {X : List Nat} {h : Hp} {l : List Nat} (ha : offL X h l = true) {n : Nat} (hn : n ∈ l) : inB X n = false ∧ ∀ a b, h.get n = some (a, b) → ∀ m ∈ b.names, inB X m = false := by
  cases X with
  | nil => exact ⟨rfl, fun _ _ _ _ _ => rfl⟩
  | cons x X =>
    simp only [offL] at ha
    have := List.all_eq_true.1 ha n hn
    simp only [Bool.and_eq_true, Bool.not_eq_true'] at this
    refine ⟨this.1, fun a b hb m hm => ?_⟩
    have h2 := this.2
    rw [hb] at h2
    simpa using List.all_eq_true.1 h2 m hm
/-- A call: what the slots have to say of it. -/
def callE (R : Rec) (S : ES) (X : List Nat) (d : Option Tmp) (x : Operand) (xs : List Operand) (f : FuncId) (ca : List (Nat × Nat)) : Option (Tr × ES) := match S with
  | ⟨t, h, nx, wl, fm⟩ => match valsE (lk t h) xs, maskT h X with
    | some (vs, ks), some hm => match ca.all (fun q => lv (lk t h) q.1 && !inB X q.1), R.F f (vs ++ capV ca) hm nx with
      | true, some (v, h', nx', wl') => match X.all (fun n => Nat.blt n nx) && (offB X v.names && (offH X h && (offL X h' wl' && fm.all (fun n => !inB wl' n)))), backT h h' X, putT t d v with
        | true, some h2, some t2 => some (⟨rdCall (opk x ++ ks) (inB X) nx', putW d v ++ wsOf h' wl'⟩, ⟨t2, h2, nx', wl' ++ wl, fm⟩)
        | _, _, _ => none
      | _, _ => none
    | _, _ => none
theorem callE_ok {P : Program} {R : Rec} (hR : SoundF P R) {S S' : ES} {X : List Nat} {d : Option Tmp} {x : Operand} {xs : List Operand} {f : FuncId} {ca : List (Nat × Nat)} {tr : Tr} (h : callE R S X d x xs f ca = some (tr, S')) (hi : S.Inv) (hx : opv S.s x = some (.c (.f f ca))) :
    Ext S.h S.nx S.wl S'.h S'.nx S'.wl ∧ S'.fm = S.fm ∧ S'.s = upd S.s tr.ws ∧ ∀ (c : Ctx) (F : Fence) (nn : Nat) (tys : Array TypeId) (rt : TypeId) (pos : String) (af : Array Edge) (g : Option (Nat × Bool)), c.P = P → WideLike F → dOk c.N d = true → c.fm = S.fm → (∀ n, S.nx ≤ n → n < S'.nx → ¬ c.gv n) →
      LocalO c F nn ⟨d, .call ⟨.value x, xs.toArray, tys⟩, rt, pos, af, g⟩ S.s tr := by
  obtain ⟨t, h0, nx, wl, fm⟩ := S
  simp only [callE] at h
  split at h
  · rename_i vs ks hm hv hmk
    split at h
    · rename_i v h' nx' wl' hca hF
      split at h
      · rename_i h2 t2 hchk hbk hpt
        cases h
        simp only [Bool.and_eq_true] at hchk
        obtain ⟨hX, hvn, hH, hL, hfm⟩ := hchk
        have hXlt : ∀ n, n ∈ X → n < nx := fun n hn => by simpa using List.all_eq_true.1 hX n hn
        have gm := maskT_get hmk
        have gb := backT_get hbk
        have hi' : ∀ n, nx ≤ n → h0.get n = none := hi
        have him : ∀ n, nx ≤ n → hm.get n = none := fun n hn => by
          rw [gm, if_neg (fun h => by have := hXlt n h; omega)]; exact hi' n hn
        obtain ⟨hE, ⟨t', hCT⟩, hcall⟩ := hR _ _ _ _ _ _ _ _ hF him
        have gmne : ∀ n, h0.get n ≠ none → hm.get n ≠ none := fun n hn => by
          rw [gm]; split
          · cases hy : h0.get n with
            | none => exact absurd hy hn
            | some p => simp
          · exact hn
        have gmt : ∀ n b, hm.get n = some (true, b) → n ∉ X ∧ h0.get n = some (true, b) := fun n b hb => by
          rw [gm] at hb; split at hb
          · split at hb <;> cases hb
          · rename_i hn; exact ⟨hn, hb⟩
        have gml : ∀ n l b, hm.get n = some (l, b) → ∃ l0, h0.get n = some (l0, b) := fun n l b hb => by
          rw [gm] at hb; split at hb
          · split at hb
            · rename_i hh; cases hb; exact ⟨_, hh⟩
            · cases hb
          · exact ⟨_, hb⟩
        have hun : ∀ n, n ∉ wl' → h2.get n = h0.get n := fun n hn => by
          rw [gb]; split
          · rfl
          · rename_i hx; rw [hE.un n hn, gm, if_neg hx]
        have hal2 : ∀ n, h0.get n ≠ none → h2.get n ≠ none := fun n hn => by
          rw [gb]; split
          · exact hn
          · exact hE.al n (gmne n hn)
        have hExt : Ext h0 nx wl h2 nx' (wl' ++ wl) := by
          refine ⟨hE.le, fun n hn => ?_, hal2, fun n hn b hb => ?_, fun n l b hb => ?_, fun n hn => List.mem_append.2 (.inr hn), fun n hn => hun n fun h => hn (List.mem_append.2 (.inl h))⟩
          · rw [gb, if_neg (fun h => by have := hXlt n h; have := hE.le; omega)]; exact hE.inv n hn
          · rw [gb] at hb; split at hb
            · exact ⟨_, hb⟩
            · obtain ⟨b0, h3⟩ := hE.rev n hn b hb
              exact ⟨b0, (gmt n b0 h3).2⟩
          · rw [gb] at hb; split at hb
            · exact .inl ⟨_, hb⟩
            · rcases hE.own n l b hb with ⟨l0, h3⟩ | h3
              · exact .inl (gml n l0 b h3)
              · exact .inr h3
        have hwl : wsOf h2 wl' = wsOf h' wl' := by
          have : ∀ l : List Nat, (∀ n ∈ l, n ∈ wl') → wsOf h2 l = wsOf h' l := fun l => by
            induction l with
            | nil => intro _; rfl
            | cons n l ih =>
              intro hl
              have hX2 : n ∉ X := inB_no.1 (offL_ok hL (hl n List.mem_cons_self)).1
              have e : h2.get n = h'.get n := by rw [gb, if_neg hX2]
              simp only [wsOf, e, ih fun m hm => hl m (List.mem_cons_of_mem _ hm)]
          exact this wl' fun _ h => h
        have hs2 : lk t h2 = upd (lk t h0) (wsOf h' wl') := by rw [← hwl]; exact wsOf_lk hun hal2
        refine ⟨hExt, rfl, ?_, fun c F nn tys rt pos af g hP hW hN hfmc hgv => ?_⟩
        · show lk t2 h2 = upd (lk t h0) _
          rw [putT_lk hpt, hs2, ← upd_append]
        · have hmask : mask (lk t h0) (inB X) = lk .e hm := by
            funext q
            cases q with
            | t i => rfl
            | b n =>
              simp only [mask, lk]
              rw [gm]
              split
              · rename_i p hp; rw [hp]; by_cases hn : n ∈ X <;> simp [hn]
              · rename_i hp; rw [hp]; by_cases hn : n ∈ X <;> simp [hn]
            | l n =>
              simp only [mask, lk]
              rw [gm]
              by_cases hn : n ∈ X
              · rw [if_pos (inB_iff.2 hn), if_pos hn]
                cases h0.get n <;> rfl
              · rw [if_neg (by rw [inB_no.2 hn]; simp), if_neg hn]
          have hC : CallOk c (lk t h0) (inB X) nx nx' v (lk t' h') (wsOf h' wl') := by
            refine ⟨hE.le, hgv, fun n hn => lk_l0.2 (hi' n hn), fun n hn => ?_, fun n hn => hXlt n (inB_iff.1 hn), fun q y hq => ?_, fun n hn => ?_, fun n hn => ?_, fun n b _ hb => ?_, offB_ok hvn, fun n hn hb => ?_, fun n b hn hb => ?_, fun n hn => ?_⟩
            · cases hy : h0.get n with
              | none => exact absurd (lk_l0.2 hy) hn
              | some p => exact ⟨p.2, lk_b.2 ⟨p.1, hy⟩⟩
            · cases q with
              | t i => rw [wsOf_t] at hq; cases hq
              | b n =>
                rw [wsOf_b] at hq
                split at hq
                · rename_i hn
                  obtain ⟨h3, h4⟩ := offL_ok hL hn
                  have hq' : lk t' h' (.b n) = some y := hq
                  simp only [lk] at hq
                  split at hq
                  · rename_i a b hg
                    cases hq
                    refine ⟨hq', ⟨n, .inr rfl, h3, ?_⟩, h4 a b hg⟩
                    rcases Nat.lt_or_ge n nx' with h5 | h5
                    · exact h5
                    · rw [hE.inv n h5] at hg; cases hg
                  · cases hq
                · cases hq
              | l n =>
                rw [wsOf_l] at hq
                split at hq
                · rename_i hn
                  obtain ⟨h3, h4⟩ := offL_ok hL hn
                  have hq' : lk t' h' (.l n) = some y := hq
                  simp only [lk] at hq
                  split at hq
                  · rename_i a b hg
                    cases hq
                    refine ⟨hq', ⟨n, .inl rfl, h3, ?_⟩, fun m hm => by cases hm⟩
                    rcases Nat.lt_or_ge n nx' with h5 | h5
                    · exact h5
                    · rw [hE.inv n h5] at hg; cases hg
                  · cases hq
                · cases hq
            · rw [hmask]
              rw [wsOf_l] at hn
              by_cases hw : n ∈ wl'
              · rw [if_pos hw] at hn
                have h3 := lk_l0.1 hn
                have h4 : hm.get n = none := by
                  cases hy : hm.get n with
                  | none => rfl
                  | some p => exact absurd h3 (hE.al n (by rw [hy]; simp))
                rw [lk_l0.2 h3, lk_l0.2 h4]
              · simp only [lk, hE.un n hw]
            · rw [hmask]
              rw [wsOf_b] at hn
              by_cases hw : n ∈ wl'
              · rw [if_pos hw] at hn
                have h3 := lk_b0.1 hn
                have h4 : hm.get n = none := by
                  cases hy : hm.get n with
                  | none => rfl
                  | some p => exact absurd h3 (hE.al n (by rw [hy]; simp))
                rw [lk_b0.2 h3, lk_b0.2 h4]
              · simp only [lk, hE.un n hw]
            · obtain ⟨a, ha⟩ := lk_b.1 hb
              exact offH_ok hH ha
            · obtain ⟨b, h3⟩ := lk_l.1 hb
              obtain ⟨b0, h4⟩ := hE.rev n hn b h3
              exact lk_l.2 ⟨b0, (gmt n b0 h4).2⟩
            · obtain ⟨a, h3⟩ := lk_b.1 hb
              rcases hE.own n a b h3 with ⟨l0, h4⟩ | h4
              · rw [him n hn] at h4; cases h4
              · exact h4
            · rw [hfmc] at hn
              have : inB wl' n = false := by simpa using List.all_eq_true.1 hfm n hn
              have h3 := inB_no.1 this
              rw [wsOf_l, wsOf_b, if_neg h3, if_neg h3]; exact ⟨rfl, rfl⟩
          subst hP
          refine LocalO.call hW hcall hx (fun q hq => ?_) (valsE_ok hv) hN (by rw [show mask (ES.s ⟨t, h0, nx, wl, fm⟩) (inB X) = lk .e hm from hmask]; exact hCT) hC
          have := List.all_eq_true.1 hca q hq
          simp only [Bool.and_eq_true, Bool.not_eq_true'] at this
          exact ⟨lv_eq this.1, this.2⟩
      · cases h
    · cases h
  · cases h
end
end Go.Proofs.Ytgjbhocahpplbaa.EV
