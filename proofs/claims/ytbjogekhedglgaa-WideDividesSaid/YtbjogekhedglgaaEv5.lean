/- States by names: the operations that neither lay nor change a block. No program in sight. -/
import Derived.Test.YtbjogekhedglgaaEv4
namespace Go.Proofs.Ytbjogekhedglgaa.EV
open Go.RowKit
open SX (flatK plainT fitB eqs conjP aggT run_eql_flat run_neq_flat)

def eqOkB (P : Program) (t : TypeId) (L M : List Value) : Bool := match flatK P 9 t with
  | some ks => plainT P 9 t && aggT P t && fitB ks L && fitB ks M && !P.eqGuardType P.depth t
  | none => false
theorem eqOk_eql {P : Program} {t : TypeId} {L M : List Value} (h : eqOkB P t L M = true) (w : World) : (binOp .eql t (.agg L.toArray) (.agg M.toArray)).run P w = .ok (.bool (eqs L M)) w ∧ (binOp .neq t (.agg L.toArray) (.agg M.toArray)).run P w = .ok (.bool (!eqs L M)) w ∧ P.eqGuardType P.depth t = false := by
  unfold eqOkB at h
  cases hk : flatK P 9 t with
  | none => rw [hk] at h; cases h
  | some ks =>
    rw [hk] at h
    simp only [Bool.and_eq_true, Bool.not_eq_true'] at h
    obtain ⟨⟨⟨⟨h1, h2⟩, h3⟩, h4⟩, h5⟩ := h
    exact ⟨run_eql_flat hk h1 h2 h3 h4 w, run_neq_flat hk h1 h2 h3 h4 w, h5⟩
/-- The cells of a list, if they are plain. -/
def plainL : List C → Option (List Value)
  | [] => some []
  | .v x :: l => match plainL l with
    | some r => some (x :: r)
    | none => none
  | _ :: _ => none
theorem plainL_eq : ∀ {l : List C} {r : List Value}, plainL l = some r → l = r.map C.v
  | [], _, h => by cases h; rfl
  | .v x :: l, r, h => by
    simp only [plainL] at h
    split at h
    · rename_i r' hr; cases h; rw [plainL_eq hr]; rfl
    · cases h
  | .p _ _ :: _, _, h => by cases h
  | .s _ _ _ _ :: _, _, h => by cases h
  | .g _ _ _ _ _ :: _, _, h => by cases h
  | .f _ _ :: _, _, h => by cases h
  | .y _ :: _, _, h => by cases h
/-- What a function keeps of what is around it. -/
inductive Caps (s : Sf) : List Operand → List (Nat × Nat) → List Key → Prop
  | nil : Caps s [] [] []
  | cons {x : Operand} {n o : Nat} {xs : List Operand} {l : List (Nat × Nat)} {ks : List Key} : opv s x = some (.c (.p n o)) → s (.l n) = some (.l true) → Caps s xs l ks → Caps s (x :: xs) ((n, o) :: l) (.l n :: (opk x ++ ks))
/-- Values of operands. -/
inductive Vals (s : Sf) : List Operand → List V → List Key → Prop
  | nil : Vals s [] [] []
  | cons {x : Operand} {v : V} {xs : List Operand} {l : List V} {ks : List Key} : opv s x = some v → Vals s xs l ks → Vals s (x :: xs) (v :: l) (opk x ++ ks)
/-- Values that are numbers of 64 bits, or none. -/
inductive OptI (s : Sf) : Option Operand → Option Int → List Key → Prop
  | no : OptI s none none []
  | yes {x : Operand} {k : IntKind} {i : Int} : opv s x = some (.c (.v (.int k i))) → OptI s (some x) (some i) (opk x)
/-- The bounds of a slicing: low, high, most; of n places, of which all may be used up to cap. -/
def bnd (n cap : Nat) (lo hi mx : Option Int) (l h m : Nat) : Prop :=
  (match mx with | some i => 0 ≤ i ∧ i ≤ cap ∧ i.toNat = m | none => m = cap) ∧
  (match hi, mx with | some i, _ => 0 ≤ i ∧ i ≤ m ∧ i.toNat = h | none, none => h = n | none, some _ => False) ∧
  (match lo with | some i => 0 ≤ i ∧ i ≤ h ∧ i.toNat = l | none => l = 0)
section
variable {c : Ctx} {F : Fence} {nn : Nat} {σ s : Sf} {e : Env} {a : Act} {w : World}
theorem ev1 {x : Operand} {v : V} (hx : opv σ x = some v) {ks : List Key} (hag : ∀ q ∈ ks, s q = σ q) (hsub : ∀ q ∈ opk x, q ∈ ks) (hR : Real c s e a w) : OkV s e v (a.eval x) ∧ ∀ n ∈ v.names, s (.l n) ≠ none :=
  have h : opv s x = some v := by rw [opv_agree fun q hq => hag q (hsub q hq)]; exact hx
  ⟨eval_opv h hR, opv_names h hR.W.cl⟩
theorem ev1v {x : Operand} {X : Value} (hx : opv σ x = some (.c (.v X))) {ks : List Key} (hag : ∀ q ∈ ks, s q = σ q) (hsub : ∀ q ∈ opk x, q ∈ ks) (hR : Real c s e a w) : a.eval x = X :=
  Ok.plain (ev1 hx hag hsub hR).1
theorem ev1r {x : Operand} {y : C} {n : Nat} (hx : opv σ x = some (.c y)) {ks : List Key} (hag : ∀ q ∈ ks, s q = σ q) (hsub : ∀ q ∈ opk x, q ∈ ks) (hR : Real c s e a w) (hn : y.names = [n]) (hl : σ (.l n) = some (.l true)) (hk : Key.l n ∈ ks) : Rep e y (a.eval x) :=
  (ev1 hx hag hsub hR).1 fun m hm => by
    rw [hn] at hm; simp at hm; subst hm
    unfold live; rw [hag _ hk]; exact hl
theorem Caps.agree {xs : List Operand} {l : List (Nat × Nat)} {ks : List Key} (h : Caps σ xs l ks) (hag : ∀ q ∈ ks, s q = σ q) (hR : Real c s e a w) : xs.map a.eval = l.map (fun q => Value.pointer (some ⟨e.id q.1, e.bs q.1 + q.2, none⟩)) := by
  induction h with
  | nil => rfl
  | @cons x n o xs l ks hx hl h ih =>
    have := ev1r hx hag (fun q hq => by simp [hq]) hR rfl hl (by simp)
    simp only [Rep] at this
    rw [List.map_cons, List.map_cons, this, ih (fun q hq => hag q (by simp [hq]))]
theorem Caps.al {xs : List Operand} {l : List (Nat × Nat)} {ks : List Key} (h : Caps σ xs l ks) (hag : ∀ q ∈ ks, s q = σ q) : ∀ n ∈ l.map (·.1), s (.l n) ≠ none := by
  induction h with
  | nil => intro n hn; cases hn
  | @cons x n o xs l ks hx hl h ih =>
    intro m hm
    simp only [List.map_cons, List.mem_cons] at hm
    rcases hm with rfl | hm
    · rw [hag _ (by simp), hl]; simp
    · exact ih (fun q hq => hag q (by simp [hq])) m hm
theorem OptI.agree {x : Option Operand} {i : Option Int} {ks : List Key} (h : OptI σ x i ks) (hag : ∀ q ∈ ks, s q = σ q) (hR : Real c s e a w) : (x = none ∧ i = none) ∨ ∃ y k j, x = some y ∧ i = some j ∧ x.map a.eval = some (.int k j) := by
  cases h with
  | no => exact .inl ⟨rfl, rfl⟩
  | @yes x k i hx => exact .inr ⟨x, k, i, rfl, rfl, by simp [ev1v hx hag (fun q h => h) hR]⟩
theorem run_bound {P : Program} {k : IntKind} {i : Int} {y : Nat} {cd : BoundsCode} (h : 0 ≤ i ∧ i ≤ y) : (Instr.sliceBound (.int k i) y cd).run P w = .ok i.toNat w := by
  simp [Instr.sliceBound, asIntOf, h]
theorem run_bounds {P : Program} {isS : Bool} {n cap l h m : Nat} {lo hi mx : Option Int} (hb : bnd n cap lo hi mx l h m) {x y z : Option Value} (hx : (x = none ∧ lo = none) ∨ ∃ k j, x = some (.int k j) ∧ lo = some j) (hy : (y = none ∧ hi = none) ∨ ∃ k j, y = some (.int k j) ∧ hi = some j)
    (hz : (z = none ∧ mx = none) ∨ ∃ k j, z = some (.int k j) ∧ mx = some j) : (Instr.sliceBounds isS n cap x y z).run P w = .ok (l, h, m) w := by
  obtain ⟨h1, h2, h3⟩ := hb
  rcases hz with ⟨rfl, rfl⟩ | ⟨k, j, rfl, rfl⟩
  · simp only at h1; subst h1
    rcases hy with ⟨rfl, rfl⟩ | ⟨k', j', rfl, rfl⟩
    · simp only at h2; subst h2
      rcases hx with ⟨rfl, rfl⟩ | ⟨k2, j2, rfl, rfl⟩
      · simp only at h3; subst h3; simp [Instr.sliceBounds]
      · simp only at h3; obtain ⟨a1, a2, rfl⟩ := h3; simp [Instr.sliceBounds, run_bound ⟨a1, a2⟩]
    · simp only at h2; obtain ⟨b1, b2, rfl⟩ := h2
      rcases hx with ⟨rfl, rfl⟩ | ⟨k2, j2, rfl, rfl⟩
      · simp only at h3; subst h3; simp [Instr.sliceBounds, run_bound ⟨b1, b2⟩]
      · simp only at h3; obtain ⟨a1, a2, rfl⟩ := h3
        have b3 := run_bound (w := w) (P := P) (k := k') (cd := if isS = true then BoundsCode.sliceAcap else BoundsCode.sliceAlen) ⟨b1, b2⟩
        have a3 := run_bound (w := w) (P := P) (k := k2) (cd := BoundsCode.sliceB) (y := j'.toNat) ⟨a1, a2⟩
        simp [Instr.sliceBounds, b3, a3]
  · simp only at h1; obtain ⟨c1, c2, rfl⟩ := h1
    have c3 := run_bound (w := w) (P := P) (k := k) (cd := if isS = true then BoundsCode.slice3Acap else BoundsCode.slice3Alen) ⟨c1, c2⟩
    rcases hy with ⟨rfl, rfl⟩ | ⟨k', j', rfl, rfl⟩
    · exact h2.elim
    · simp only at h2; obtain ⟨b1, b2, rfl⟩ := h2
      have b3 := run_bound (w := w) (P := P) (k := k') (cd := BoundsCode.slice3B) (y := j.toNat) ⟨b1, b2⟩
      rcases hx with ⟨rfl, rfl⟩ | ⟨k2, j2, rfl, rfl⟩
      · simp only at h3; subst h3; simp [Instr.sliceBounds, b3, c3]
      · simp only at h3; obtain ⟨a1, a2, rfl⟩ := h3
        have a3 := run_bound (w := w) (P := P) (k := k2) (cd := BoundsCode.slice3C) (y := j'.toNat) ⟨a1, a2⟩
        simp [Instr.sliceBounds, b3, c3, a3]

theorem Vals.agree {xs : List Operand} {L : List Value} {ks : List Key} (h : Vals σ xs (L.map fun X => V.c (.v X)) ks) (hag : ∀ q ∈ ks, s q = σ q) (hR : Real c s e a w) : xs.map a.eval = L := by
  generalize hl : (L.map fun X => V.c (.v X)) = l at h
  induction h generalizing L with
  | nil => cases L with
    | nil => rfl
    | cons x r => cases hl
  | @cons x v xs l ks hx h ih =>
    cases L with
    | nil => cases hl
    | cons X r =>
      simp only [List.map_cons, List.cons.injEq] at hl
      obtain ⟨rfl, hl⟩ := hl
      rw [List.map_cons, ev1v hx hag (fun q hq => by simp [hq]) hR, ih (fun q hq => hag q (by simp [hq])) hl]
def minR (k : IntKind) : Int → List Value → Option Value
  | a, [] => some (.int k a)
  | a, .int _ b :: r => minR k (if b < a then b else a) r
  | _, _ :: _ => none
def maxR (k : IntKind) : Int → List Value → Option Value
  | a, [] => some (.int k a)
  | a, .int _ b :: r => maxR k (if b > a then b else a) r
  | _, _ :: _ => none
def minL : List Value → Option Value
  | .int k a :: r => minR k a r
  | _ => none
def maxL : List Value → Option Value
  | .int k a :: r => maxR k a r
  | _ => none
theorem minR_ok {P : Program} {k : IntKind} : ∀ {r : List Value} {a : Int} {Z : Value}, minR k a r = some Z → (r.foldlM Builtin.min2 (.int k a)).run P w = .ok Z w
  | [], a, Z, h => by simp only [minR] at h; cases h; rfl
  | x :: r, a, Z, h => by
    cases x with
    | int k' b => simp only [minR] at h; rw [List.foldlM_cons]; simpa [Builtin.min2] using minR_ok h
    | _ => simp [minR] at h
theorem maxR_ok {P : Program} {k : IntKind} : ∀ {r : List Value} {a : Int} {Z : Value}, maxR k a r = some Z → (r.foldlM Builtin.max2 (.int k a)).run P w = .ok Z w
  | [], a, Z, h => by simp only [maxR] at h; cases h; rfl
  | x :: r, a, Z, h => by
    cases x with
    | int k' b => simp only [maxR] at h; rw [List.foldlM_cons]; simpa [Builtin.max2] using maxR_ok h
    | _ => simp [maxR] at h
theorem minL_ok {P : Program} {L : List Value} {Z : Value} (h : minL L = some Z) : ∃ x r, L = x :: r ∧ (r.foldlM Builtin.min2 x).run P w = .ok Z w := by
  cases L with
  | nil => simp [minL] at h
  | cons x r => cases x with
    | int k a => exact ⟨_, _, rfl, minR_ok (by simpa [minL] using h)⟩
    | _ => simp [minL] at h
theorem maxL_ok {P : Program} {L : List Value} {Z : Value} (h : maxL L = some Z) : ∃ x r, L = x :: r ∧ (r.foldlM Builtin.max2 x).run P w = .ok Z w := by
  cases L with
  | nil => simp [maxL] at h
  | cons x r => cases x with
    | int k a => exact ⟨_, _, rfl, maxR_ok (by simpa [maxL] using h)⟩
    | _ => simp [maxL] at h
theorem OkT.get : ∀ {l : List (C ⊕ List C)} {us : List Value} {i : Nat} {x : C ⊕ List C}, OkT s e l us → l[i]? = some x → ∃ u, us[i]? = some u ∧ OkP s e x u
  | [], _, _, _, _, hx => by simp at hx
  | y :: l, _, 0, x, ⟨u, r, hu, h1, _⟩, hx => by
    simp only [List.getElem?_cons_zero, Option.some.injEq] at hx
    subst hx; rw [hu]; exact ⟨u, rfl, h1⟩
  | y :: l, _, i + 1, x, ⟨u, r, hu, _, h2⟩, hx => by
    rw [hu]; simpa using h2.get (i := i) (by simpa using hx)
/-- A value held against nil: the nil, the answer, what is read of blocks. -/
inductive NilT (P : Program) (s : Sf) (x : Operand) (t : TypeId) : Value → Bool → List Key → Prop
  | f {g : FuncId} {ca : List (Nat × Nat)} {ks : List Key} {i1 : Array TypeId} {i2 : Array TypeId} {v : Bool} : opv s x = some (.c (.f g ca)) → (∀ q ∈ ca, s (.l q.1) = some (.l true) ∧ Key.l q.1 ∈ ks) → P.underlying t = some (.func i1 i2 v) → NilT P s x t .nilFunc false ks
  | y {n : Nat} {i1 : Array TypeId} {i2 : Array TypeId} {v : Bool} : opv s x = some (.c (.y n)) → s (.l n) = some (.l true) → P.underlying t = some (.func i1 i2 v) → NilT P s x t .nilFunc false [.l n]
  | vF {i1 : Array TypeId} {i2 : Array TypeId} {v : Bool} : opv s x = some (.c (.v .nilFunc)) → P.underlying t = some (.func i1 i2 v) → NilT P s x t .nilFunc true []
  | s {n o l k : Nat} {el : TypeId} : opv s x = some (.c (.s n o l k)) → s (.l n) = some (.l true) → 0 < l + k → P.underlying t = some (.slice el) → NilT P s x t (.slice none 0 0) false [.l n]
  | g {n o l b z : Nat} {el : TypeId} : opv s x = some (.c (.g n o l b z)) → s (.l n) = some (.l true) → 0 < l + b → P.underlying t = some (.slice el) → NilT P s x t (.slice none 0 0) false [.l n]
  | vS {p : Option Addr} {l k : Nat} {el : TypeId} : opv s x = some (.c (.v (.slice p l k))) → P.underlying t = some (.slice el) → NilT P s x t (.slice none 0 0) p.isNone []
  | vP {p : Addr} {el : TypeId} : opv s x = some (.c (.v (.pointer (some p)))) → P.underlying t = some (.pointer el) → NilT P s x t (.pointer none) false []
theorem NilT.sound {x : Operand} {t : TypeId} {Y : Value} {b : Bool} {ks : List Key} (h : NilT c.P σ x t Y b ks) (hag : ∀ q ∈ ks ++ opk x, s q = σ q) (hR : Real c s e a w) :
    (binOp .eql t (a.eval x) Y).run c.P w = .ok (.bool b) w ∧ (binOp .neq t (a.eval x) Y).run c.P w = .ok (.bool !b) w ∧ ∀ op y, eqGuard op t x y (a.eval x) Y = pure () := by
  have key : ∀ X, (Op.equal t X Y).run c.P w = .ok b w → (∃ g f c, X = .func g f c) ∨ X = .nilFunc ∨ (∃ p l k, X = .slice p l k) ∨ (∃ p, X = .pointer p) → Y ≠ .nilIface → (binOp .eql t X Y).run c.P w = .ok (.bool b) w ∧ (binOp .neq t X Y).run c.P w = .ok (.bool !b) w ∧ ∀ op y, eqGuard op t x y X Y = pure () := fun X hX hs hY => by
    have e1 : (binOp .eql t X Y) = (do pure (.bool (← Op.equal t X Y))) := by rcases hs with ⟨_, _, _, rfl⟩ | rfl | ⟨_, _, _, rfl⟩ | ⟨_, rfl⟩ <;> rfl
    have e2 : (binOp .neq t X Y) = (do pure (.bool (!(← Op.equal t X Y)))) := by rcases hs with ⟨_, _, _, rfl⟩ | rfl | ⟨_, _, _, rfl⟩ | ⟨_, rfl⟩ <;> rfl
    refine ⟨by rw [e1, Sem.run_bind, hX]; rfl, by rw [e2, Sem.run_bind, hX]; rfl, fun op y => ?_⟩
    unfold eqGuard
    rcases hs with ⟨_, _, _, rfl⟩ | rfl | ⟨_, _, _, rfl⟩ | ⟨_, rfl⟩ <;> (cases op <;> rfl)
  have un : ∀ X, Op.equal t X Y = Op.equalIn (9999 + 1) t X Y := fun _ => rfl
  cases h with
  | @f g ca ks i1 i2 v hx hca hu =>
    have ex : Rep e (.f g ca) (a.eval x) := (ev1 hx hag (fun q h => by simp [h]) hR).1 fun n hn => by
      simp only [C.names, List.mem_map] at hn
      obtain ⟨q, hq, rfl⟩ := hn
      unfold live; rw [hag _ (by simp [(hca q hq).2])]; exact (hca q hq).1
    simp only [Rep] at ex
    rw [ex]
    refine key _ ?_ (.inl ⟨_, _, _, rfl⟩) (by simp)
    rw [un, Op.equalIn]; simp only [Sem.run_bind, run_underlying hu w, Result.andThen_ok]; rfl
  | @y n i1 i2 v hx hl hu =>
    have ex := ev1r hx hag (fun q h => by simp [h]) hR rfl hl (by simp)
    simp only [Rep] at ex
    rw [ex]
    refine key _ ?_ (.inl ⟨_, _, _, rfl⟩) (by simp)
    rw [un, Op.equalIn]; simp only [Sem.run_bind, run_underlying hu w, Result.andThen_ok]; rfl
  | @vF i1 i2 v hx hu =>
    rw [ev1v hx hag (fun q h => by simp [h]) hR]
    refine key _ ?_ (.inr (.inl rfl)) (by simp)
    rw [un, Op.equalIn]; simp only [Sem.run_bind, run_underlying hu w, Result.andThen_ok]; rfl
  | @s n o l k el hx hl h0 hu =>
    have ex := ev1r hx hag (fun q h => by simp [h]) hR rfl hl (by simp)
    rcases ex with ex | ⟨h1, h2, _⟩
    · rw [ex]
      refine key _ ?_ (.inr (.inr (.inl ⟨_, _, _, rfl⟩))) (by simp)
      rw [un, Op.equalIn]; simp only [Sem.run_bind, run_underlying hu w, Result.andThen_ok]; rfl
    · omega
  | @g n o l b z el hx hl h0 hu =>
    have ex := ev1r hx hag (fun q h => by simp [h]) hR rfl hl (by simp)
    rcases ex with ⟨cap, ex, _⟩ | ⟨h1, h2, _⟩
    · rw [ex]
      refine key _ ?_ (.inr (.inr (.inl ⟨_, _, _, rfl⟩))) (by simp)
      rw [un, Op.equalIn]; simp only [Sem.run_bind, run_underlying hu w, Result.andThen_ok]; rfl
    · omega
  | @vS p l k el hx hu =>
    rw [ev1v hx hag (fun q h => by simp [h]) hR]
    refine key _ ?_ (.inr (.inr (.inl ⟨_, _, _, rfl⟩))) (by simp)
    rw [un, Op.equalIn]; simp only [Sem.run_bind, run_underlying hu w, Result.andThen_ok]
    cases p <;> rfl
  | @vP p el hx hu =>
    rw [ev1v hx hag (fun q h => by simp [h]) hR]
    refine key _ ?_ (.inr (.inr (.inr ⟨_, rfl⟩))) (by simp)
    rw [un, Op.equalIn]; simp only [Sem.run_bind, run_underlying hu w, Result.andThen_ok]; rfl
/-- What an operation yields of what slots hold. -/
inductive PO (P : Program) (s : Sf) : Op → V → List Key → Prop
  | move {x : Operand} {v : V} : opv s x = some v → PO P s (.move x) v (opk x)
  | assign {x : Operand} {v : V} : opv s x = some v → PO P s (.assign x) v (opk x)
  | pickT {x y z : Operand} {v : V} : opv s x = some (.c (.v (.bool true))) → opv s y = some v → PO P s (.pick x y z) v (opk x ++ opk y)
  | pickF {x y z : Operand} {v : V} : opv s x = some (.c (.v (.bool false))) → opv s z = some v → PO P s (.pick x y z) v (opk x ++ opk z)
  | extC {x : Operand} {l : List (C ⊕ List C)} {i : Nat} {z : C} : opv s x = some (.t l) → l[i]? = some (.inl z) → PO P s (.extract x i) (.c z) (opk x)
  | extA {x : Operand} {l : List (C ⊕ List C)} {i : Nat} {z : List C} : opv s x = some (.t l) → l[i]? = some (.inr z) → PO P s (.extract x i) (.a z) (opk x)
  | field {x : Operand} {l : List C} {t : TypeId} {fs : Array Field} {f : Field} {i : Nat} {v : V} : opv s x = some (.a l) → P.underlying t = some (.struct fs) → fs[i]? = some f → partC P f.type l f.offset = some v → PO P s (.field t x i) v (opk x)
  | index {x y : Operand} {l : List C} {t el : TypeId} {len z : Nat} {k : IntKind} {j : Int} {v : V} : opv s x = some (.a l) → opv s y = some (.c (.v (.int k j))) → P.underlying t = some (.array len el) → tS P el = some z → 0 ≤ j ∧ j < len → partC P el l (j.toNat * z) = some v → PO P s (.index t x y) v (opk x ++ opk y)
  | indexS {x y : Operand} {t : TypeId} {b : ByteArray} {k : IntKind} {j : Int} {u : UInt8} : opv s x = some (.c (.v (.string b))) → opv s y = some (.c (.v (.int k j))) → P.underlying t = some .string → 0 ≤ j → b.data.toList[j.toNat]? = some u → PO P s (.index t x y) (.c (.v (.int .u8 u.toNat))) (opk x ++ opk y)
  | func {g : FuncId} {xs : List Operand} {l : List (Nat × Nat)} {ks : List Key} : Caps s xs l ks → PO P s (.makeFunc (.func g) #[] xs.toArray) (.c (.f g l)) ks
  | fieldAddr {x : Operand} {n o i k : Nat} {t : TypeId} {fs : Array Field} {f : Field} : opv s x = some (.c (.p n o)) → s (.l n) = some (.l true) → P.underlying t = some (.struct fs) → fs[i]? = some f → tS P f.type = some k → k ≠ 0 → PO P s (.fieldAddr t x i) (.c (.p n (o + f.offset))) (.l n :: opk x)
  | indexAddr {x y : Operand} {n o len z : Nat} {t el : TypeId} {k : IntKind} {j : Int} : opv s x = some (.c (.p n o)) → s (.l n) = some (.l true) → opv s y = some (.c (.v (.int k j))) → P.underlying t = some (.array len el) → tS P el = some z → 0 ≤ j ∧ j < len → PO P s (.indexAddr t x y) (.c (.p n (o + j.toNat * z))) (.l n :: (opk x ++ opk y))
  | indexAddrS {x y : Operand} {n o len cap z : Nat} {t el : TypeId} {k : IntKind} {j : Int} : opv s x = some (.c (.s n o len cap)) → s (.l n) = some (.l true) → opv s y = some (.c (.v (.int k j))) → P.underlying t = some (.slice el) → tS P el = some z → 0 ≤ j ∧ j < len → PO P s (.indexAddr t x y) (.c (.p n (o + j.toNat * z))) (.l n :: (opk x ++ opk y))
  | indexAddrG {x y : Operand} {n o len lb z' z : Nat} {t el : TypeId} {k : IntKind} {j : Int} : opv s x = some (.c (.g n o len lb z')) → s (.l n) = some (.l true) → opv s y = some (.c (.v (.int k j))) → P.underlying t = some (.slice el) → tS P el = some z → 0 ≤ j ∧ j < len → PO P s (.indexAddr t x y) (.c (.p n (o + j.toNat * z))) (.l n :: (opk x ++ opk y))
  | sliceS {x : Operand} {lo hi mx : Option Operand} {n o len cap z l h m : Nat} {lo' hi' mx' : Option Int} {t el : TypeId} {k1 k2 k3 : List Key} : opv s x = some (.c (.s n o len cap)) → s (.l n) = some (.l true) → OptI s lo lo' k1 → OptI s hi hi' k2 → OptI s mx mx' k3 → P.underlying t = some (.slice el) → tS P el = some z → bnd len cap lo' hi' mx' l h m → l ≤ h → h ≤ m →
      PO P s (.slice t x lo hi mx) (.c (.s n (o + l * z) (h - l) (m - l))) (.l n :: (opk x ++ (k1 ++ (k2 ++ k3))))
  | sliceG {x : Operand} {lo hi : Option Operand} {n o len lb z l h : Nat} {lo' hi' : Option Int} {t el : TypeId} {k1 k2 : List Key} : opv s x = some (.c (.g n o len lb z)) → s (.l n) = some (.l true) → OptI s lo lo' k1 → OptI s hi hi' k2 → P.underlying t = some (.slice el) → tS P el = some z → bnd len (max len lb) lo' hi' none l h (max len lb) → l ≤ h →
      PO P s (.slice t x lo hi none) (.c (.g n (o + l * z) (h - l) (max len lb - l) z)) (.l n :: (opk x ++ (k1 ++ k2)))
  | sliceG3 {x z0 : Operand} {lo hi : Option Operand} {n o len lb z l h m : Nat} {lo' hi' mx' : Option Int} {t el : TypeId} {k1 k2 k3 : List Key} : opv s x = some (.c (.g n o len lb z)) → s (.l n) = some (.l true) → OptI s lo lo' k1 → OptI s hi hi' k2 → OptI s (some z0) mx' k3 → P.underlying t = some (.slice el) → tS P el = some z → bnd len (max len lb) lo' hi' mx' l h m → l ≤ h → h ≤ m →
      PO P s (.slice t x lo hi (some z0)) (.c (.s n (o + l * z) (h - l) (m - l))) (.l n :: (opk x ++ (k1 ++ (k2 ++ k3))))
  | sliceP {x : Operand} {lo hi mx : Option Operand} {n o len z l h m : Nat} {lo' hi' mx' : Option Int} {t el : TypeId} {k1 k2 k3 : List Key} : opv s x = some (.c (.p n o)) → s (.l n) = some (.l true) → OptI s lo lo' k1 → OptI s hi hi' k2 → OptI s mx mx' k3 → P.underlying t = some (.array len el) → tS P el = some z → bnd len len lo' hi' mx' l h m → l ≤ h → h ≤ m →
      PO P s (.slice t x lo hi mx) (.c (.s n (o + l * z) (h - l) (m - l))) (.l n :: (opk x ++ (k1 ++ (k2 ++ k3))))
  | sliceT {x : Operand} {lo hi : Option Operand} {b : ByteArray} {l h m : Nat} {lo' hi' : Option Int} {t : TypeId} {k1 k2 : List Key} : opv s x = some (.c (.v (.string b))) → OptI s lo lo' k1 → OptI s hi hi' k2 → P.underlying t = some .string → bnd b.data.size b.data.size lo' hi' none l h m →
      PO P s (.slice t x lo hi none) (.c (.v (.string (b.extract l h)))) (opk x ++ (k1 ++ k2))
  | sliceN {x : Operand} {lo hi mx : Option Operand} {z l h m : Nat} {lo' hi' mx' : Option Int} {t el : TypeId} {k1 k2 k3 : List Key} : opv s x = some (.c (.v (.slice none 0 0))) → OptI s lo lo' k1 → OptI s hi hi' k2 → OptI s mx mx' k3 → P.underlying t = some (.slice el) → tS P el = some z → bnd 0 0 lo' hi' mx' l h m → l ≤ h → h ≤ m →
      PO P s (.slice t x lo hi mx) (.c (.v (.slice none 0 0))) (opk x ++ (k1 ++ (k2 ++ k3)))
  | nilCheck {x : Operand} {n o : Nat} : opv s x = some (.c (.p n o)) → s (.l n) = some (.l true) → PO P s (.nilCheck x) (.c (.p n o)) (.l n :: opk x)
  | nilCheckP {x : Operand} {b : Addr} : opv s x = some (.c (.v (.pointer (some b)))) → PO P s (.nilCheck x) (.c (.v (.pointer (some b)))) (opk x)
  | nilCheckF {x : Operand} {g : FuncId} {ca : List (Nat × Nat)} {ks : List Key} : opv s x = some (.c (.f g ca)) → (∀ q ∈ ca, s (.l q.1) = some (.l true) ∧ Key.l q.1 ∈ ks) → PO P s (.nilCheck x) (.c (.f g ca)) (ks ++ opk x)
  | nilCheckY {x : Operand} {n : Nat} : opv s x = some (.c (.y n)) → s (.l n) = some (.l true) → PO P s (.nilCheck x) (.c (.y n)) (.l n :: opk x)
  | un {op : UnOp} {x : Operand} {X Z : Value} {t : TypeId} : opv s x = some (.c (.v X)) → unC op X = some Z → PO P s (.unOp op t x) (.c (.v Z)) (opk x)
  | bin {op : BinOp} {x y : Operand} {X Y Z : Value} {t ty : TypeId} : opv s x = some (.c (.v X)) → opv s y = some (.c (.v Y)) → binC P t op X Y = some Z → PO P s (.binOp op t x y ty) (.c (.v Z)) (opk x ++ opk y)
  | eqA {x y : Operand} {l m : List C} {L M : List Value} {t ty : TypeId} : opv s x = some (.a l) → opv s y = some (.a m) → plainL l = some L → plainL m = some M → eqOkB P t L M = true → PO P s (.binOp .eql t x y ty) (.c (.v (.bool (eqs L M)))) (opk x ++ opk y)
  | neA {x y : Operand} {l m : List C} {L M : List Value} {t ty : TypeId} : opv s x = some (.a l) → opv s y = some (.a m) → plainL l = some L → plainL m = some M → eqOkB P t L M = true → PO P s (.binOp .neq t x y ty) (.c (.v (.bool (!eqs L M)))) (opk x ++ opk y)
  | eqN {x y : Operand} {n o : Nat} {t ty el : TypeId} : opv s x = some (.c (.p n o)) → s (.l n) = some (.l true) → opv s y = some (.c (.v (.pointer none))) → P.underlying t = some (.pointer el) → PO P s (.binOp .eql t x y ty) (.c (.v (.bool false))) (.l n :: (opk x ++ opk y))
  | neN {x y : Operand} {n o : Nat} {t ty el : TypeId} : opv s x = some (.c (.p n o)) → s (.l n) = some (.l true) → opv s y = some (.c (.v (.pointer none))) → P.underlying t = some (.pointer el) → PO P s (.binOp .neq t x y ty) (.c (.v (.bool true))) (.l n :: (opk x ++ opk y))
  | nilEq {x y : Operand} {t ty : TypeId} {Y : Value} {b : Bool} {ks : List Key} : NilT P s x t Y b ks → opv s y = some (.c (.v Y)) → PO P s (.binOp .eql t x y ty) (.c (.v (.bool b))) ((ks ++ opk x) ++ opk y)
  | nilNe {x y : Operand} {t ty : TypeId} {Y : Value} {b : Bool} {ks : List Key} : NilT P s x t Y b ks → opv s y = some (.c (.v Y)) → PO P s (.binOp .neq t x y ty) (.c (.v (.bool !b))) ((ks ++ opk x) ++ opk y)
  | conv {x : Operand} {k k' : IntKind} {n : Int} {d : TypeDesc} {src dst : TypeId} : opv s x = some (.c (.v (.int k n))) → P.underlying src = some d → P.underlying dst = some (.int k') → PO P s (.convert src dst x) (.c (.v (.int k' (k'.wrap n)))) (opk x)
  | convS {x : Operand} {b : ByteArray} {d : TypeDesc} {src dst : TypeId} : opv s x = some (.c (.v (.string b))) → P.underlying src = some d → P.underlying dst = some .string → PO P s (.convert src dst x) (.c (.v (.string b))) (opk x)
  | lenS {x : Operand} {n o len cap : Nat} {t el : TypeId} : opv s x = some (.c (.s n o len cap)) → s (.l n) = some (.l true) → P.underlying t = some (.slice el) → PO P s (.call ⟨.builtin .len, #[x], #[t]⟩) (.c (.v (.int .i64 len))) (.l n :: opk x)
  | lenG {x : Operand} {n o len lb z : Nat} {t el : TypeId} : opv s x = some (.c (.g n o len lb z)) → s (.l n) = some (.l true) → P.underlying t = some (.slice el) → PO P s (.call ⟨.builtin .len, #[x], #[t]⟩) (.c (.v (.int .i64 len))) (.l n :: opk x)
  | lenT {x : Operand} {b : ByteArray} {t : TypeId} : opv s x = some (.c (.v (.string b))) → P.underlying t = some .string → PO P s (.call ⟨.builtin .len, #[x], #[t]⟩) (.c (.v (.int .i64 b.data.size))) (opk x)
  | lenN {x : Operand} {n cap : Nat} {p : Option Addr} {t el : TypeId} : opv s x = some (.c (.v (.slice p n cap))) → P.underlying t = some (.slice el) → PO P s (.call ⟨.builtin .len, #[x], #[t]⟩) (.c (.v (.int .i64 n))) (opk x)
  | capS {x : Operand} {n o len cap : Nat} {t el : TypeId} : opv s x = some (.c (.s n o len cap)) → s (.l n) = some (.l true) → P.underlying t = some (.slice el) → PO P s (.call ⟨.builtin .cap, #[x], #[t]⟩) (.c (.v (.int .i64 cap))) (.l n :: opk x)
  | mins {xs : List Operand} {L : List Value} {ks : List Key} {Z : Value} {ty : Array TypeId} : Vals s xs (L.map fun X => .c (.v X)) ks → minL L = some Z → PO P s (.call ⟨.builtin .min, xs.toArray, ty⟩) (.c (.v Z)) ks
  | maxs {xs : List Operand} {L : List Value} {ks : List Key} {Z : Value} {ty : Array TypeId} : Vals s xs (L.map fun X => .c (.v X)) ks → maxL L = some Z → PO P s (.call ⟨.builtin .max, xs.toArray, ty⟩) (.c (.v Z)) ks
  | run {op : Op} {xs : List Operand} {L : List Value} {ks : List Key} {Z : Value} : Vals s xs (L.map fun X => .c (.v X)) ks → (∀ (ρ : Operand → Value) (o : Oper) w, o.op = op → xs.map ρ = L → (execOp ρ o).run P w = .ok (.value Z) w) → PO P s op (.c (.v Z)) ks
theorem run_bin {x y : Operand} {op : BinOp} {t ty rt : TypeId} {d : Option Tmp} {pos : String} {af : Array Edge} {g : Option (Nat × Bool)} {X Y Z : Value} {P : Program} (ex : a.eval x = X) (ey : a.eval y = Y) (h : (do eqGuard op t x y X Y; binOp op t X Y : Sem Value).run P w = .ok Z w) :
    (execOp a.eval ⟨d, .binOp op t x y ty, rt, pos, af, g⟩).run P w = .ok (.value Z) w := by
  subst ex ey
  simp only [execOp]
  rw [Sem.run_bind, h]; rfl
theorem alive_ne {n : Nat} {ks : List Key} (hag : ∀ q ∈ ks, s q = σ q) (hl : σ (.l n) = some (.l true)) (hk : Key.l n ∈ ks) : s (.l n) ≠ none := by rw [hag _ hk, hl]; simp
theorem run_sliceU {P : Program} {isl : Bool} {t el : TypeId} {p : Option Addr} {len cap l h m z : Nat} {lo hi mx : Option Value} (ht : P.underlying t = some (.slice el)) (hz : tS P el = some z) (hb : (Instr.sliceBounds true len cap lo hi mx).run P w = .ok (l, h, m) w) :
    (Instr.sliceAt t (.slice p len cap) lo hi mx).run P w = .ok (.slice (if m = l then p else p.map (·.add (l * z))) (h - l) (m - l)) w := by
  simp only [Instr.sliceAt, Instr.slice, Sem.run_bind, run_underlying ht, Result.andThen_ok, hb, run_sz hz, Sem.run_pure]
theorem run_sliceA {P : Program} {t el : TypeId} {p : Addr} {len l h m z : Nat} {lo hi mx : Option Value} (ht : P.underlying t = some (.array len el)) (hz : tS P el = some z) (hb : (Instr.sliceBounds false len len lo hi mx).run P w = .ok (l, h, m) w) :
    (Instr.sliceAt t (.pointer (some p)) lo hi mx).run P w = .ok (.slice (some (if m = l then p else p.add (l * z))) (h - l) (m - l)) w := by
  simp only [Instr.sliceAt, Instr.sureAddr, Sem.run_bind, run_underlying ht, Result.andThen_ok, hb, run_sz hz, Sem.run_pure]
theorem OptI.run {x : Option Operand} {i : Option Int} {ks : List Key} (h : OptI σ x i ks) (hag : ∀ q ∈ ks, s q = σ q) (hR : Real c s e a w) : (x.map a.eval = none ∧ i = none) ∨ ∃ k j, x.map a.eval = some (.int k j) ∧ i = some j := by
  rcases h.agree hag hR with ⟨rfl, rfl⟩ | ⟨y, k, j, rfl, rfl, h'⟩
  · exact .inl ⟨rfl, rfl⟩
  · exact .inr ⟨k, j, h', rfl⟩
theorem add_mid (b o j : Nat) : (⟨b, o, none⟩ : Addr).add j = ⟨b, o + j, none⟩ := Addr.add_mid b o j
theorem PO.sound {op : Op} {v : V} {ks : List Key} (h : PO c.P σ op v ks) (hag : ∀ q ∈ ks, s q = σ q) (hR : Real c s e a w) {d : Option Tmp} {rt : TypeId} {pos : String} {af : Array Edge} {g : Option (Nat × Bool)} :
    ∃ u, (execOp a.eval ⟨d, op, rt, pos, af, g⟩).run c.P w = .ok (.value u) w ∧ OkV s e v u ∧ ∀ n ∈ v.names, s (.l n) ≠ none := by
  cases h with
  | @move x v hx =>
    obtain ⟨h1, h2⟩ := ev1 hx hag (fun q h => h) hR
    exact ⟨_, rfl, h1, h2⟩
  | @assign x v hx =>
    obtain ⟨h1, h2⟩ := ev1 hx hag (fun q h => h) hR
    exact ⟨_, rfl, h1, h2⟩
  | @pickT x y z v hx hy =>
    obtain ⟨h1, h2⟩ := ev1 hy hag (fun q h => by simp [h]) hR
    exact ⟨_, by simp [execOp, ev1v hx hag (fun q h => by simp [h]) hR, asBool], h1, h2⟩
  | @pickF x y z v hx hz =>
    obtain ⟨h1, h2⟩ := ev1 hz hag (fun q h => by simp [h]) hR
    exact ⟨_, by simp [execOp, ev1v hx hag (fun q h => by simp [h]) hR, asBool], h1, h2⟩
  | @extC x l i z hx hl =>
    obtain ⟨⟨us, hu, h1⟩, h2⟩ := ev1 hx hag (fun q h => h) hR
    obtain ⟨u, h3, h4⟩ := h1.get hl
    exact ⟨u, by simp [execOp, hu, Instr.extract, h3], h4, fun n hn => h2 n (by simp only [V.names, List.mem_flatMap]; exact ⟨_, List.mem_of_getElem? hl, hn⟩)⟩
  | @extA x l i z hx hl =>
    obtain ⟨⟨us, hu, h1⟩, h2⟩ := ev1 hx hag (fun q h => h) hR
    obtain ⟨u, h3, h4⟩ := h1.get hl
    exact ⟨u, by simp [execOp, hu, Instr.extract, h3], h4, fun n hn => h2 n (by simp only [V.names, List.mem_flatMap]; exact ⟨_, List.mem_of_getElem? hl, hn⟩)⟩
  | @field x l t fs f i v hx ht hf hp =>
    obtain ⟨⟨us, hu, h1⟩, h2⟩ := ev1 hx hag (fun q h => h) hR
    obtain ⟨u, h3, h4, h5⟩ := part_ok (w := w) hp h1
    exact ⟨u, by simp [execOp, hu, Instr.field, run_underlying ht, hf, asAgg, h3], h4, fun n hn => h2 n (h5 n hn)⟩
  | @index x y l t el len z k j v hx hy ht hz hj hp =>
    obtain ⟨⟨us, hu, h1⟩, h2⟩ := ev1 hx hag (fun q h => by simp [h]) hR
    obtain ⟨u, h3, h4, h5⟩ := part_ok (w := w) hp h1
    exact ⟨u, by simp [execOp, hu, ev1v hy hag (fun q h => by simp [h]) hR, Instr.index, asIntOf, run_underlying ht, hj, run_sz hz, h3], h4, fun n hn => h2 n (h5 n hn)⟩
  | @indexS x y t b k j u hx hy ht hj hu =>
    refine ⟨_, ?_, Ok.of, fun n hn => by cases hn⟩
    have hb : b[j.toNat]? = some u := by
      rw [Array.getElem?_toList] at hu
      rw [← hu]; rfl
    simp [execOp, ev1v hx hag (fun q h => by simp [h]) hR, ev1v hy hag (fun q h => by simp [h]) hR, Instr.index, asIntOf, run_underlying ht, hj, hb]
  | @func g xs l ks hc =>
    refine ⟨_, rfl, fun _ => ?_, fun n hn => hc.al hag n (by simpa [V.names, C.names] using hn)⟩
    have := hc.agree hag hR
    simp [Rep, Instr.makeFunc, this]
  | @fieldAddr x n o i k t fs f hx hl ht hf hk h0 =>
    have ex := ev1r hx hag (fun q h => by simp [h]) hR rfl hl (by simp)
    simp only [Rep] at ex
    refine ⟨.pointer (some ⟨e.id n, e.bs n + (o + f.offset), none⟩), ?_, fun _ => rfl, fun m hm => ?_⟩
    · simp [execOp, ex, Instr.fieldAt, run_underlying ht, hf, Instr.sureAddr, fieldPlace, run_sz hk, h0, add_mid, Nat.add_assoc]
    · simp [V.names, C.names] at hm; subst hm; exact alive_ne hag hl (by simp)
  | @indexAddr x y n o len z t el k j hx hl hy ht hz hj =>
    have ex := ev1r hx hag (fun q h => by simp [h]) hR rfl hl (by simp)
    simp only [Rep] at ex
    refine ⟨.pointer (some ⟨e.id n, e.bs n + (o + j.toNat * z), none⟩), ?_, fun _ => rfl, fun m hm => ?_⟩
    · simp [execOp, ex, ev1v hy hag (fun q h => by simp [h]) hR, Instr.indexAt, asIntOf, run_underlying ht, Instr.sureAddr, hj, run_sz hz, add_mid, Nat.add_assoc]
    · simp [V.names, C.names] at hm; subst hm; exact alive_ne hag hl (by simp)
  | @indexAddrS x y n o len cap z t el k j hx hl hy ht hz hj =>
    have ex := ev1r hx hag (fun q h => by simp [h]) hR rfl hl (by simp)
    refine ⟨.pointer (some ⟨e.id n, e.bs n + (o + j.toNat * z), none⟩), ?_, fun _ => rfl, fun m hm => ?_⟩
    · rcases ex with ex | ⟨h0, _⟩
      · simp [execOp, ex, ev1v hy hag (fun q h => by simp [h]) hR, Instr.indexAt, asIntOf, run_underlying ht, hj, run_sz hz, add_mid, Nat.add_assoc]
      · omega
    · simp [V.names, C.names] at hm; subst hm; exact alive_ne hag hl (by simp)
  | @indexAddrG x y n o len lb z' z t el k j hx hl hy ht hz hj =>
    have ex := ev1r hx hag (fun q h => by simp [h]) hR rfl hl (by simp)
    refine ⟨.pointer (some ⟨e.id n, e.bs n + (o + j.toNat * z), none⟩), ?_, fun _ => rfl, fun m hm => ?_⟩
    · rcases ex with ⟨kk, ex, _⟩ | ⟨h0, _⟩
      · simp [execOp, ex, ev1v hy hag (fun q h => by simp [h]) hR, Instr.indexAt, asIntOf, run_underlying ht, hj, run_sz hz, add_mid, Nat.add_assoc]
      · omega
    · simp [V.names, C.names] at hm; subst hm; exact alive_ne hag hl (by simp)
  | @sliceS x lo hi mx n o len cap z l h m lo' hi' mx' t el k1 k2 k3 hx hl h1 h2 h3 ht hz hb hlh hhm =>
    have ex := ev1r hx hag (fun q h => by simp [h]) hR rfl hl (by simp)
    have hn : ∀ m' ∈ (V.c (.s n (o + l * z) (h - l) (m - l))).names, s (.l m') ≠ none := fun m' hm => by
      simp [V.names, C.names] at hm; subst hm; exact alive_ne hag hl (by simp)
    have hbr := run_bounds (w := w) (P := c.P) (isS := true) hb (h1.run (fun q hq => hag q (by simp [hq])) hR) (h2.run (fun q hq => hag q (by simp [hq])) hR) (h3.run (fun q hq => hag q (by simp [hq])) hR)
    rcases ex with ex | ⟨rfl, rfl, p, ex⟩
    · have hr := run_sliceU (isl := true) (p := some ⟨e.id n, e.bs n + o, none⟩) ht hz hbr
      refine ⟨_, by simp only [execOp, ex]; rw [Sem.run_bind, hr]; rfl, fun _ => ?_, hn⟩
      by_cases hml : m = l
      · exact .inr ⟨by omega, by omega, some ⟨e.id n, e.bs n + o, none⟩, by rw [if_pos hml, show h - l = 0 by omega, show m - l = 0 by omega]⟩
      · exact .inl (by rw [if_neg hml]; simp [add_mid, Nat.add_assoc])
    · have hr := run_sliceU (isl := true) (p := p) ht hz hbr
      have hm0 : m = 0 := by
        have := hb.1
        cases mx' with
        | none => simpa using this
        | some i => simp only at this; omega
      refine ⟨_, by simp only [execOp, ex]; rw [Sem.run_bind, hr]; rfl, fun _ => .inr ⟨by omega, by omega, p, ?_⟩, hn⟩
      rw [if_pos (by omega), show h - l = 0 by omega, show m - l = 0 by omega]
  | @sliceG x lo hi n o len lb z l h lo' hi' t el k1 k2 hx hl h1 h2 ht hz hb hlh =>
    have ex := ev1r hx hag (fun q h => by simp [h]) hR rfl hl (by simp)
    have hn : ∀ m' ∈ (V.c (.g n (o + l * z) (h - l) (max len lb - l) z)).names, s (.l m') ≠ none := fun m' hm => by
      simp [V.names, C.names] at hm; subst hm; exact alive_ne hag hl (by simp)
    have hh : h ≤ max len lb := by
      have := hb.2.1
      cases hi' with
      | none => simp only at this; omega
      | some i => simp only at this; omega
    rcases ex with ⟨k, ex, hk1, hk2, hk3, hk4⟩ | ⟨rfl, rfl, p, ex⟩
    · have hb' : bnd len k lo' hi' none l h k := by
        refine ⟨rfl, ?_, hb.2.2⟩
        have := hb.2.1
        cases hi' with
        | none => exact this
        | some i => simp only at this ⊢; omega
      have hbr := run_bounds (w := w) (P := c.P) (isS := true) (z := none) hb' (h1.run (fun q hq => hag q (by simp [hq])) hR) (h2.run (fun q hq => hag q (by simp [hq])) hR) (.inl ⟨rfl, rfl⟩)
      have hr := run_sliceU (isl := true) (p := some ⟨e.id n, e.bs n + o, none⟩) ht hz hbr
      refine ⟨_, by simp only [execOp, ex, Option.map_none]; rw [Sem.run_bind, hr]; rfl, fun _ => ?_, hn⟩
      by_cases hml : k = l
      · exact .inr ⟨by omega, by omega, some ⟨e.id n, e.bs n + o, none⟩, by rw [if_pos hml, show h - l = 0 by omega, show k - l = 0 by omega]⟩
      · refine .inl ⟨k - l, by rw [if_neg hml]; simp [add_mid, Nat.add_assoc], by omega, by omega, by omega, ?_⟩
        have : o + l * z + (k - l) * z = o + k * z := by
          rw [Nat.add_assoc, ← Nat.add_mul]; congr 2; omega
        omega
    · have hbr := run_bounds (w := w) (P := c.P) (isS := true) (z := none) hb (h1.run (fun q hq => hag q (by simp [hq])) hR) (h2.run (fun q hq => hag q (by simp [hq])) hR) (.inl ⟨rfl, rfl⟩)
      have hr := run_sliceU (isl := true) (p := p) ht hz hbr
      have e0 : max 0 0 = 0 := rfl
      rw [e0] at hh hr hbr ⊢
      refine ⟨_, by simp only [execOp, ex, Option.map_none]; rw [Sem.run_bind, hr]; rfl, fun _ => .inr ⟨by omega, by omega, p, ?_⟩, hn⟩
      rw [if_pos (by omega), show h - l = 0 by omega, show 0 - l = 0 by omega]
  | @sliceG3 x z0 lo hi n o len lb z l h m lo' hi' mx' t el k1 k2 k3 hx hl h1 h2 h3 ht hz hb hlh hhm =>
    have ex := ev1r hx hag (fun q h => by simp [h]) hR rfl hl (by simp)
    have hn : ∀ m' ∈ (V.c (.s n (o + l * z) (h - l) (m - l))).names, s (.l m') ≠ none := fun m' hm => by
      simp [V.names, C.names] at hm; subst hm; exact alive_ne hag hl (by simp)
    have h3r := h3.run (fun q hq => hag q (by simp [hq])) hR
    have hmx : ∃ i, mx' = some i := by
      rcases h3r with ⟨h, _⟩ | ⟨k, j, _, h⟩
      · cases h
      · exact ⟨j, h⟩
    obtain ⟨i, rfl⟩ := hmx
    have hm := hb.1
    simp only at hm
    rcases ex with ⟨k, ex, hk1, hk2, hk3, hk4⟩ | ⟨rfl, rfl, p, ex⟩
    · have hb' : bnd len k lo' hi' (some i) l h m := ⟨by simp only; omega, hb.2.1, hb.2.2⟩
      have hbr := run_bounds (w := w) (P := c.P) (isS := true) hb' (h1.run (fun q hq => hag q (by simp [hq])) hR) (h2.run (fun q hq => hag q (by simp [hq])) hR) h3r
      have hr := run_sliceU (isl := true) (p := some ⟨e.id n, e.bs n + o, none⟩) ht hz hbr
      refine ⟨_, by simp only [execOp, ex]; rw [Sem.run_bind, hr]; rfl, fun _ => ?_, hn⟩
      by_cases hml : m = l
      · exact .inr ⟨by omega, by omega, some ⟨e.id n, e.bs n + o, none⟩, by rw [if_pos hml, show h - l = 0 by omega, show m - l = 0 by omega]⟩
      · exact .inl (by rw [if_neg hml]; simp [add_mid, Nat.add_assoc])
    · have hbr := run_bounds (w := w) (P := c.P) (isS := true) hb (h1.run (fun q hq => hag q (by simp [hq])) hR) (h2.run (fun q hq => hag q (by simp [hq])) hR) h3r
      have hr := run_sliceU (isl := true) (p := p) ht hz hbr
      have e0 : max 0 0 = 0 := rfl
      rw [e0] at hm hr hbr
      refine ⟨_, by simp only [execOp, ex]; rw [Sem.run_bind, hr]; rfl, fun _ => .inr ⟨by omega, by omega, p, ?_⟩, hn⟩
      rw [if_pos (by omega), show h - l = 0 by omega, show m - l = 0 by omega]
  | @sliceP x lo hi mx n o len z l h m lo' hi' mx' t el k1 k2 k3 hx hl h1 h2 h3 ht hz hb hlh hhm =>
    have ex := ev1r hx hag (fun q h => by simp [h]) hR rfl hl (by simp)
    simp only [Rep] at ex
    have hn : ∀ m' ∈ (V.c (.s n (o + l * z) (h - l) (m - l))).names, s (.l m') ≠ none := fun m' hm => by
      simp [V.names, C.names] at hm; subst hm; exact alive_ne hag hl (by simp)
    have hbr := run_bounds (w := w) (P := c.P) (isS := false) hb (h1.run (fun q hq => hag q (by simp [hq])) hR) (h2.run (fun q hq => hag q (by simp [hq])) hR) (h3.run (fun q hq => hag q (by simp [hq])) hR)
    have hr := run_sliceA (p := ⟨e.id n, e.bs n + o, none⟩) ht hz hbr
    refine ⟨_, by simp only [execOp, ex]; rw [Sem.run_bind, hr]; rfl, fun _ => ?_, hn⟩
    by_cases hml : m = l
    · exact .inr ⟨by omega, by omega, some ⟨e.id n, e.bs n + o, none⟩, by rw [if_pos hml, show h - l = 0 by omega, show m - l = 0 by omega]⟩
    · exact .inl (by rw [if_neg hml]; simp [add_mid, Nat.add_assoc])
  | @sliceN x lo hi mx z l h m lo' hi' mx' t el k1 k2 k3 hx h1 h2 h3 ht hz hb hlh hhm =>
    have ex := ev1v hx hag (fun q h => by simp [h]) hR
    have hbr := run_bounds (w := w) (P := c.P) (isS := true) hb (h1.run (fun q hq => hag q (by simp [hq])) hR) (h2.run (fun q hq => hag q (by simp [hq])) hR) (h3.run (fun q hq => hag q (by simp [hq])) hR)
    have hr := run_sliceU (isl := true) (p := none) ht hz hbr
    have hm0 : m ≤ 0 := by
      have := hb.1
      cases mx' with
      | none => simp only at this; omega
      | some i => simp only at this; omega
    have e1 : m = 0 := by omega
    have e2 : l = 0 := by omega
    have e3 : h = 0 := by omega
    subst e1 e2 e3
    refine ⟨_, by simp only [execOp, ex]; rw [Sem.run_bind, hr]; rfl, Ok.of, fun n hn => by cases hn⟩
  | @sliceT x lo hi b l h m lo' hi' t k1 k2 hx h1 h2 ht hb =>
    have hbr := run_bounds (w := w) (P := c.P) (isS := false) (z := none) hb (h1.run (fun q hq => hag q (by simp [hq])) hR) (h2.run (fun q hq => hag q (by simp [hq])) hR) (.inl ⟨rfl, rfl⟩)
    refine ⟨.string (b.extract l h), ?_, Ok.of, fun n hn => by cases hn⟩
    have e1 : b.size = b.data.size := rfl
    simp only [execOp, ev1v hx hag (fun q h => by simp [h]) hR, Option.map_none, Instr.sliceAt, Instr.slice, Sem.run_bind, run_underlying ht, Result.andThen_ok, Option.isSome_none, Bool.false_eq_true, if_false, Sem.run_pure, e1, hbr]
  | @nilCheck x n o hx hl =>
    have ex := ev1r hx hag (fun q h => by simp [h]) hR rfl hl (by simp)
    simp only [Rep] at ex
    refine ⟨_, by simp only [execOp, ex]; rfl, fun _ => rfl, fun m hm => ?_⟩
    simp [V.names, C.names] at hm; subst hm; exact alive_ne hag hl (by simp)
  | @nilCheckP x b hx =>
    exact ⟨_, by simp only [execOp, ev1v hx hag (fun q h => h) hR]; rfl, Ok.of, fun n hn => by cases hn⟩
  | @nilCheckF x g ca ks hx hl =>
    obtain ⟨h1, h2⟩ := ev1 hx hag (fun q h => by simp [h]) hR
    have h3 : Rep e (.f g ca) (a.eval x) := h1 fun n hn => by
      simp only [C.names, List.mem_map] at hn
      obtain ⟨q, hq, rfl⟩ := hn
      unfold live; rw [hag _ (by simp [(hl q hq).2])]; exact (hl q hq).1
    simp only [Rep] at h3
    exact ⟨_, by simp only [execOp, h3]; rfl, fun _ => rfl, h2⟩
  | @nilCheckY x n hx hl =>
    have ex := ev1r hx hag (fun q h => by simp [h]) hR rfl hl (by simp)
    simp only [Rep] at ex
    refine ⟨_, by simp only [execOp, ex]; rfl, fun _ => rfl, fun m hm => ?_⟩
    simp [V.names, C.names] at hm; subst hm; exact alive_ne hag hl (by simp)
  | @un op x X Z t hx hz =>
    exact ⟨_, by simp only [execOp, ev1v hx hag (fun q h => h) hR]; rw [Sem.run_bind, unC_ok hz]; rfl, Ok.of, fun n hn => by cases hn⟩
  | @bin op x y X Y Z t ty hx hy hz =>
    exact ⟨_, run_bin (ev1v hx hag (fun q h => by simp [h]) hR) (ev1v hy hag (fun q h => by simp [h]) hR) (binC_ok hz), Ok.of, fun n hn => by cases hn⟩
  | @eqA x y l m L M t ty hx hy hl hm hk =>
    obtain ⟨⟨us, hu, h1⟩, _⟩ := ev1 hx hag (fun q h => by simp [h]) hR
    obtain ⟨⟨vs, hv, h2⟩, _⟩ := ev1 hy hag (fun q h => by simp [h]) hR
    rw [plainL_eq hl] at h1; rw [plainL_eq hm] at h2
    rw [h1.eq] at hu; rw [h2.eq] at hv
    obtain ⟨a1, a2, a3⟩ := eqOk_eql hk w
    refine ⟨_, run_bin hu hv ?_, Ok.of, fun n hn => by cases hn⟩
    simp only [Sem.run_bind, run_eqGuard_agg w _ t x y _ _ a3, Result.andThen_ok, a1]
  | @neA x y l m L M t ty hx hy hl hm hk =>
    obtain ⟨⟨us, hu, h1⟩, _⟩ := ev1 hx hag (fun q h => by simp [h]) hR
    obtain ⟨⟨vs, hv, h2⟩, _⟩ := ev1 hy hag (fun q h => by simp [h]) hR
    rw [plainL_eq hl] at h1; rw [plainL_eq hm] at h2
    rw [h1.eq] at hu; rw [h2.eq] at hv
    obtain ⟨a1, a2, a3⟩ := eqOk_eql hk w
    refine ⟨_, run_bin hu hv ?_, Ok.of, fun n hn => by cases hn⟩
    simp only [Sem.run_bind, run_eqGuard_agg w _ t x y _ _ a3, Result.andThen_ok, a2]
  | @eqN x y n o t ty el hx hl hy ht =>
    have ex := ev1r hx hag (fun q h => by simp [h]) hR rfl hl (by simp)
    simp only [Rep] at ex
    refine ⟨_, run_bin ex (ev1v hy hag (fun q h => by simp [h]) hR) ?_, Ok.of, fun n hn => by cases hn⟩
    have e1 : (Op.equal t (.pointer (some ⟨e.id n, e.bs n + o, none⟩)) (.pointer none)).run c.P w = .ok false w := by
      have : Op.equal t (.pointer (some ⟨e.id n, e.bs n + o, none⟩)) (.pointer none) = Op.equalIn (9999 + 1) t (.pointer (some ⟨e.id n, e.bs n + o, none⟩)) (.pointer none) := rfl
      rw [this, Op.equalIn]; simp only [Sem.run_bind, run_underlying ht w, Result.andThen_ok]; rfl
    have e2 : eqGuard .eql t x y (.pointer (some ⟨e.id n, e.bs n + o, none⟩)) (.pointer none) = pure () := rfl
    rw [e2]; simp only [Sem.run_bind, Sem.run_pure, Result.andThen_ok, binOp, e1]
  | @neN x y n o t ty el hx hl hy ht =>
    have ex := ev1r hx hag (fun q h => by simp [h]) hR rfl hl (by simp)
    simp only [Rep] at ex
    refine ⟨_, run_bin ex (ev1v hy hag (fun q h => by simp [h]) hR) ?_, Ok.of, fun n hn => by cases hn⟩
    have e1 : (Op.equal t (.pointer (some ⟨e.id n, e.bs n + o, none⟩)) (.pointer none)).run c.P w = .ok false w := by
      have : Op.equal t (.pointer (some ⟨e.id n, e.bs n + o, none⟩)) (.pointer none) = Op.equalIn (9999 + 1) t (.pointer (some ⟨e.id n, e.bs n + o, none⟩)) (.pointer none) := rfl
      rw [this, Op.equalIn]; simp only [Sem.run_bind, run_underlying ht w, Result.andThen_ok]; rfl
    have e2 : eqGuard .neq t x y (.pointer (some ⟨e.id n, e.bs n + o, none⟩)) (.pointer none) = pure () := rfl
    rw [e2]; simp only [Sem.run_bind, Sem.run_pure, Result.andThen_ok, binOp, e1]; rfl
  | @nilEq x y t ty Y b ks hn hy =>
    obtain ⟨h1, h2, h3⟩ := hn.sound (fun q hq => hag q (List.mem_append.2 (.inl hq))) hR
    refine ⟨_, run_bin rfl (ev1v hy hag (fun q h => by simp [h]) hR) ?_, Ok.of, fun n hn => by cases hn⟩
    rw [h3]; simp only [Sem.run_bind, Sem.run_pure, Result.andThen_ok, h1]
  | @nilNe x y t ty Y b ks hn hy =>
    obtain ⟨h1, h2, h3⟩ := hn.sound (fun q hq => hag q (List.mem_append.2 (.inl hq))) hR
    refine ⟨_, run_bin rfl (ev1v hy hag (fun q h => by simp [h]) hR) ?_, Ok.of, fun n hn => by cases hn⟩
    rw [h3]; simp only [Sem.run_bind, Sem.run_pure, Result.andThen_ok, h2]
  | @conv x k k' n d src dst hx h1 h2 =>
    refine ⟨_, ?_, Ok.of, fun n hn => by cases hn⟩
    have e1 : (underlying src).run c.P w = .ok d w := run_underlying h1 w
    have e2 : (underlying dst).run c.P w = .ok (.int k') w := run_underlying h2 w
    simp only [execOp, ev1v hx hag (fun q h => h) hR]
    simp [Go.convert, e1, e2, Conv.intToInt]
  | @convS x b d src dst hx h1 h2 =>
    refine ⟨_, ?_, Ok.of, fun n hn => by cases hn⟩
    have e1 : (underlying src).run c.P w = .ok d w := run_underlying h1 w
    have e2 : (underlying dst).run c.P w = .ok .string w := run_underlying h2 w
    simp only [execOp, ev1v hx hag (fun q h => h) hR, Go.convert, Sem.run_bind, e1, e2, Result.andThen_ok]
    cases d <;> rfl
  | @lenS x n o len cap t el hx hl ht =>
    have ex := ev1r hx hag (fun q h => by simp [h]) hR rfl hl (by simp)
    refine ⟨.int .i64 len, ?_, Ok.of, fun n hn => by cases hn⟩
    rcases ex with ex | ⟨rfl, rfl, p, ex⟩
    · simp [execOp, resolve, invoke, builtin, ex, Builtin.len_, run_underlying ht, goInt]
    · simp [execOp, resolve, invoke, builtin, ex, Builtin.len_, run_underlying ht, goInt]
  | @lenG x n o len lb z t el hx hl ht =>
    have ex := ev1r hx hag (fun q h => by simp [h]) hR rfl hl (by simp)
    refine ⟨.int .i64 len, ?_, Ok.of, fun n hn => by cases hn⟩
    rcases ex with ⟨k, ex, _⟩ | ⟨rfl, rfl, p, ex⟩
    · simp [execOp, resolve, invoke, builtin, ex, Builtin.len_, run_underlying ht, goInt]
    · simp [execOp, resolve, invoke, builtin, ex, Builtin.len_, run_underlying ht, goInt]
  | @lenT x b t hx ht =>
    exact ⟨.int .i64 b.data.size, by simp [execOp, resolve, invoke, builtin, ev1v hx hag (fun q h => h) hR, Builtin.len_, run_underlying ht, goInt], Ok.of, fun n hn => by cases hn⟩
  | @lenN x n cap p t el hx ht =>
    exact ⟨.int .i64 n, by simp [execOp, resolve, invoke, builtin, ev1v hx hag (fun q h => h) hR, Builtin.len_, run_underlying ht, goInt], Ok.of, fun n hn => by cases hn⟩
  | @capS x n o len cap t el hx hl ht =>
    have ex := ev1r hx hag (fun q h => by simp [h]) hR rfl hl (by simp)
    refine ⟨.int .i64 cap, ?_, Ok.of, fun n hn => by cases hn⟩
    rcases ex with ex | ⟨rfl, rfl, p, ex⟩
    · simp [execOp, resolve, invoke, builtin, ex, Builtin.cap_, run_underlying ht, goInt]
    · simp [execOp, resolve, invoke, builtin, ex, Builtin.cap_, run_underlying ht, goInt]
  | @mins xs L ks Z ty hv hz =>
    obtain ⟨x, r, rfl, hr⟩ := minL_ok (w := w) (P := c.P) hz
    have hm := hv.agree hag hR
    refine ⟨Z, ?_, Ok.of, fun n hn => by cases hn⟩
    simp only [execOp, resolve, Sem.run_bind, Sem.run_pure, Result.andThen_ok, invoke, builtin, List.map_toArray, hm, Builtin.min_, hr]
  | @maxs xs L ks Z ty hv hz =>
    obtain ⟨x, r, rfl, hr⟩ := maxL_ok (w := w) (P := c.P) hz
    have hm := hv.agree hag hR
    refine ⟨Z, ?_, Ok.of, fun n hn => by cases hn⟩
    simp only [execOp, resolve, Sem.run_bind, Sem.run_pure, Result.andThen_ok, invoke, builtin, List.map_toArray, hm, Builtin.max_, hr]
  | @run op xs L ks Z hv hr =>
    exact ⟨Z, hr a.eval _ w rfl (hv.agree hag hR), Ok.of, fun n hn => by cases hn⟩
end
end Go.Proofs.Ytbjogekhedglgaa.EV
