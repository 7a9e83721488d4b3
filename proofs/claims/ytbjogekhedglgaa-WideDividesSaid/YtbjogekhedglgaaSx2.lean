/- Walking by states: what each operation leaves of a state. No program in sight. -/
import Derived.Test.YtbjogekhedglgaaSx1
namespace Go.Proofs.Ytbjogekhedglgaa.SX
open Go.RowKit

/-! ### Names -/
theorem C.den_congr {ids ids' : Nat → Nat} : ∀ {x : C}, (∀ n ∈ x.names, ids n = ids' n) → x.den ids = x.den ids'
  | .v _, _ => rfl
  | .p n o, h => by simp [C.den, h n (by simp [C.names])]
  | .s n o l k, h => by simp [C.den, h n (by simp [C.names])]
  | .f g caps, h => by
    simp only [C.den]
    congr 2
    exact List.map_congr_left fun q hq => by rw [h q.1 (List.mem_map.2 ⟨q, hq, rfl⟩)]
theorem map_den_congr {ids ids' : Nat → Nat} {l : List C} (h : ∀ n ∈ l.flatMap C.names, ids n = ids' n) : l.map (C.den ids) = l.map (C.den ids') :=
  List.map_congr_left fun x hx => C.den_congr fun n hn => h n (List.mem_flatMap.2 ⟨x, hx, hn⟩)
theorem V.den_congr {ids ids' : Nat → Nat} : ∀ {v : V}, (∀ n ∈ v.names, ids n = ids' n) → v.den ids = v.den ids'
  | .c _, h => C.den_congr h
  | .a l, h => by simp only [V.den]; rw [map_den_congr h]
  | .t l, h => by
    simp only [V.den]
    congr 2
    refine List.map_congr_left fun x hx => ?_
    have h' : ∀ n ∈ namesP x, ids n = ids' n := fun n hn => h n (List.mem_flatMap.2 ⟨x, hx, hn⟩)
    cases x with
    | inl y => exact C.den_congr h'
    | inr l => simp only [denP]; rw [map_den_congr h']

section
variable {c : Ctx} {F : Fence} {nn : Nat} {s : Sf} {ids : Nat → Nat} {a : Act} {w : World}
theorem upd_miss {ws : Ws} {q : Key} (h : lookW ws q = none) : upd s ws q = s q := by simp [upd, h]
theorem upd_hit {ws : Ws} {q : Key} {x : KV} (h : lookW ws q = some x) : upd s ws q = some x := by simp [upd, h]
theorem lookW_t {d : Tmp} {x : KV} {q : Key} : lookW [(.t d, x)] q = if q = .t d then some x else none := by
  simp only [lookW]
  by_cases h : q = .t d
  · subst h; simp [Key.beq_refl]
  · rw [if_neg h]
    cases hb : Key.beq (.t d) q with
    | true => exact absurd ((Key.beq_iff _ _).1 hb).symm h
    | false => rfl
theorem RealW.lt (h : RealW c s ids w) {n : Nat} (hl : live s n) : ids n < w.heap.size := by
  obtain ⟨t, k, hb⟩ := hl
  obtain ⟨cs, hc, _⟩ := h.blk n t k hb
  exact (Array.getElem?_eq_some_iff.1 hc).1
/-- Slots do not matter to the world. -/
theorem RealW.slots (h : RealW c s ids w) {s' : Sf} (hc : ∀ n o, s' (.c n o) = s (.c n o)) (hb : ∀ n, s' (.b n) = s (.b n)) (ht : ∀ i x, s' (.t i) = some x → ∀ n ∈ x.names, live s n) : RealW c s' ids w := by
  have hl : ∀ n, live s' n ↔ live s n := fun n => by simp [live, hb]
  refine ⟨fun n o x hx => h.cell n o x (by rw [← hc]; exact hx), fun n t k hx => h.blk n t k (by rw [← hb]; exact hx), fun n n' h1 h2 => h.inj n n' ((hl n).1 h1) ((hl n').1 h2), h.given, fun n hm h1 => h.own n hm ((hl n).1 h1), ?_, fun n o x hx => (hl n).2 (h.cellLive n o x (by rw [← hc]; exact hx)), h.os, h.tape, h.output, h.size, h.old, h.marks⟩
  intro q x hq n hn
  refine (hl n).2 ?_
  cases q with
  | t i => exact ht i x hq n hn
  | c m o => exact h.closed (.c m o) x (by rw [← hc]; exact hq) n hn
  | b m => exact h.closed (.b m) x (by rw [← hb]; exact hq) n hn
theorem Real.put (h : Real c s ids a w) {d : Tmp} {v : V} (hd : d < c.N) (hn : ∀ n ∈ v.names, live s n) : Real c (upd s [(.t d, .v v)]) ids (a.put (some d) (v.den ids)) w := by
  have hq : ∀ q, q ≠ .t d → upd s [(.t d, .v v)] q = s q := fun q hq => upd_miss (by rw [lookW_t, if_neg hq])
  have hself : upd s [(.t d, .v v)] (.t d) = some (.v v) := upd_hit (by rw [lookW_t, if_pos rfl])
  refine ⟨h.W.slots (fun n o => hq _ (by simp)) (fun n => hq _ (by simp)) ?_, h.defers, ?_, ?_⟩
  · intro i x hx n hx'
    by_cases hi : i = d
    · subst hi; rw [hself] at hx; cases hx; exact hn n hx'
    · rw [hq _ (by simpa using hi)] at hx; exact h.W.closed _ _ hx n hx'
  · simpa [Act.put] using h.slots
  · intro i x hx
    simp only [Act.put, Array.getElem?_setIfInBounds]
    by_cases hi : d = i
    · subst hi
      rw [hself] at hx; cases hx
      rw [if_pos rfl, if_pos (by rw [h.slots]; exact hd)]
    · rw [if_neg hi]
      rw [hq _ (by simpa using fun e => hi e.symm)] at hx
      exact h.tmp i x hx
theorem Real.same (h : Real c s ids a w) : Real c (upd s []) ids a w := by
  have : upd s [] = s := by funext q; simp [upd, lookW]
  rw [this]; exact h

/-- The world moved on, what is named stayed. -/
theorem RealW.on (h : RealW c s ids w) {w' : World} (hb : Below w.heap.size w w') : RealW c s ids w' := by
  have hB := h.size
  refine ⟨fun n o x hx => ?_, fun n t k hx => ?_, h.inj, h.given, h.own, h.closed, h.cellLive, hb.os.trans h.os, hb.tape.trans h.tape, hb.output.trans h.output, Nat.le_trans h.size hb.size, fun k hk hn => (hb.block k (by omega)).trans (h.old k hk hn), fun D hD => (hb.block D (Array.getElem?_eq_some_iff.1 (h.marks D hD)).1).trans (h.marks D hD)⟩
  · rw [hb.cell (p := ⟨ids n, o, none⟩) (h.lt (h.cellLive _ _ _ hx))]; exact h.cell n o x hx
  · obtain ⟨cs, hc, hs⟩ := h.blk n t k hx
    exact ⟨cs, (hb.block _ (h.lt ⟨t, k, hx⟩)).trans hc, hs⟩
theorem Real.on (h : Real c s ids a w) {w' : World} (hb : Below w.heap.size w w') : Real c s ids a w' := ⟨h.W.on hb, h.defers, h.slots, h.tmp⟩

/-! ### New blocks, stores -/
def cellsW (n : Nat) : Nat → List C → Ws
  | _, [] => []
  | o, x :: r => (.c n o, .c x) :: cellsW n (o + 1) r
theorem lookW_cells (n : Nat) : ∀ (l : List C) (o : Nat) (q : Key), lookW (cellsW n o l) q = match q with
    | .c m p => if m = n ∧ o ≤ p then (l[p - o]?).map KV.c else none
    | _ => none
  | [], o, q => by cases q <;> simp [cellsW, lookW]
  | x :: r, o, q => by
    simp only [cellsW, lookW, lookW_cells n r (o + 1) q]
    cases q with
    | t i => simp [Key.beq]
    | b m => simp [Key.beq]
    | c m p =>
      by_cases hm : m = n
      · subst hm
        by_cases ho : o = p
        · subst ho; simp [Key.beq]
        · have hne : Nat.beq o p = false := by
            cases hb : Nat.beq o p with
            | true => exact absurd (Nat.eq_of_beq_eq_true hb) ho
            | false => rfl
          simp only [Key.beq, hne, Bool.and_false, cond_false]
          by_cases hle : o ≤ p
          · rw [if_pos ⟨trivial, by omega⟩, if_pos ⟨trivial, hle⟩, show p - o = p - (o + 1) + 1 from by omega]; simp
          · rw [if_neg (by omega), if_neg (by omega)]
      · have hne : Nat.beq n m = false := by
          cases hb : Nat.beq n m with
          | true => exact absurd (Nat.eq_of_beq_eq_true hb).symm hm
          | false => rfl
        simp [Key.beq, hne, hm]

theorem Real.alloc (h : Real c s ids a w) {n : Nat} (hm : c.m ≤ n) (hn : s (.b n) = none) {d : Tmp} (hd : d < c.N) {l : List C} {ty : TypeId} (hl : ∀ k ∈ l.flatMap C.names, live s k) (v : V) (hv : ∀ k ∈ v.names, k = n ∨ live s k) :
    ∃ ids', ids' n = w.heap.size ∧ (∀ k, k ≠ n → ids' k = ids k) ∧
      Real c (upd s ((.t d, .v v) :: (.b n, .b ty l.length) :: cellsW n 0 l)) ids' (a.put (some d) (v.den ids')) (w.alloc (.cells (l.map (C.den ids)).toArray ty)) := by
  have hnl : ¬ live s n := fun ⟨t, k, h'⟩ => by rw [hn] at h'; cases h'
  refine ⟨fun k => if k = n then w.heap.size else ids k, by simp, fun k hk => by simp [hk], ?_⟩
  have hid : ∀ k, live s k → (fun k => if k = n then w.heap.size else ids k) k = ids k := fun k hk => by
    have : k ≠ n := fun e => hnl (e ▸ hk)
    simp [this]
  generalize hS : upd s ((.t d, .v v) :: (.b n, .b ty l.length) :: cellsW n 0 l) = S
  have hSb : ∀ k, S (.b k) = if k = n then some (.b ty l.length) else s (.b k) := fun k => by
    rw [← hS]
    simp only [upd, lookW, Key.beq, lookW_cells, cond_false]
    by_cases hk : k = n
    · subst hk; simp
    · have hne : Nat.beq n k = false := by
        cases hb : Nat.beq n k with
        | true => exact absurd (Nat.eq_of_beq_eq_true hb).symm hk
        | false => rfl
      simp [hne, hk]
  have hSc : ∀ k o, S (.c k o) = if k = n then (match l[o]? with | some x => some (.c x) | none => s (.c k o)) else s (.c k o) := fun k o => by
    rw [← hS]
    simp only [upd, lookW, Key.beq, lookW_cells, cond_false]
    by_cases hk : k = n
    · subst hk
      cases hx : l[o]? <;> simp [hx]
    · simp [hk]
  have hSt : ∀ i, S (.t i) = if i = d then some (.v v) else s (.t i) := fun i => by
    rw [← hS]
    simp only [upd, lookW, Key.beq, lookW_cells, cond_false]
    by_cases hi : i = d
    · subst hi; simp
    · have hne : Nat.beq d i = false := by
        cases hb : Nat.beq d i with
        | true => exact absurd (Nat.eq_of_beq_eq_true hb).symm hi
        | false => rfl
      simp [hne, hi]
  have hlv : ∀ k, live S k ↔ k = n ∨ live s k := fun k => by
    simp only [live, hSb]
    by_cases hk : k = n
    · simp [hk]
    · simp [hk]
  have hnc : ∀ o x, s (.c n o) = some x → False := fun o x hx => hnl (h.W.cellLive n o x hx)
  refine ⟨⟨?_, ?_, ?_, ?_, ?_, ?_, ?_, h.W.os, h.W.tape, h.W.output, ?_, ?_, fun D hD => (Below.heap_alloc w _ D (Array.getElem?_eq_some_iff.1 (h.W.marks D hD)).1).trans (h.W.marks D hD)⟩, h.defers, ?_, ?_⟩
  · intro k o x hx
    rw [hSc] at hx
    by_cases hk : k = n
    · subst hk
      rw [if_pos rfl] at hx
      cases hl' : l[o]? with
      | none => rw [hl'] at hx; exact (hnc o _ hx).elim
      | some y =>
        rw [hl'] at hx; cases hx
        simp only [if_pos]
        rw [World.cell?_alloc_new]
        simp only [List.getElem?_toArray, List.getElem?_map, hl', Option.map_some]
        congr 1
        exact C.den_congr fun j hj => (hid j (hl j (List.mem_flatMap.2 ⟨x, List.mem_of_getElem? hl', hj⟩))).symm
    · rw [if_neg hk] at hx
      have hlk := h.W.cellLive k o _ hx
      rw [show (if k = n then w.heap.size else ids k) = ids k from hid k hlk, World.cell?_alloc_lt _ _ _ (by simpa using h.W.lt hlk), h.W.cell k o x hx]
      congr 1
      exact C.den_congr fun j hj => (hid j (h.W.closed _ _ hx j hj)).symm
  · intro k t q hx
    rw [hSb] at hx
    by_cases hk : k = n
    · subst hk
      rw [if_pos rfl] at hx
      cases hx
      simp only [if_pos]
      exact ⟨_, World.alloc_heap_new w _, by simp⟩
    · rw [if_neg hk] at hx
      obtain ⟨cs, hc, hs⟩ := h.W.blk k t q hx
      rw [show (if k = n then w.heap.size else ids k) = ids k from hid k ⟨t, q, hx⟩]
      exact ⟨cs, (Below.heap_alloc w _ _ (h.W.lt ⟨t, q, hx⟩)).trans hc, hs⟩
  · intro k k' hk hk' he
    rw [hlv] at hk hk'
    by_cases h1 : k = n <;> by_cases h2 : k' = n
    · rw [h1, h2]
    · have := hk'.resolve_left h2
      have hlt := h.W.lt this
      simp only [h1, if_pos, h2, if_false] at he
      omega
    · have := hk.resolve_left h1
      have hlt := h.W.lt this
      simp only [h2, if_pos, h1, if_false] at he
      omega
    · simp only [h1, h2, if_false] at he
      exact h.W.inj k k' (hk.resolve_left h1) (hk'.resolve_left h2) he
  · intro k hk
    have : k ≠ n := by omega
    simp only [this, if_false]
    exact h.W.given k hk
  · intro k hk hlk
    rw [hlv] at hlk
    by_cases h1 : k = n
    · simp only [h1, if_pos]; exact h.W.size
    · simp only [h1, if_false]; exact h.W.own k hk (hlk.resolve_left h1)
  · intro q x hq k hk
    rw [hlv]
    cases q with
    | t i =>
      rw [hSt] at hq
      by_cases hi : i = d
      · rw [if_pos hi] at hq; cases hq; exact hv k hk
      · rw [if_neg hi] at hq; exact .inr (h.W.closed _ _ hq k hk)
    | b m =>
      rw [hSb] at hq
      by_cases hm' : m = n
      · rw [if_pos hm'] at hq; cases hq; cases hk
      · rw [if_neg hm'] at hq; exact .inr (h.W.closed _ _ hq k hk)
    | c m o =>
      rw [hSc] at hq
      by_cases hm' : m = n
      · rw [if_pos hm'] at hq
        cases hl' : l[o]? with
        | none => rw [hl'] at hq; rw [hm'] at hq; exact (hnc o _ hq).elim
        | some y => rw [hl'] at hq; cases hq; exact .inr (hl k (List.mem_flatMap.2 ⟨y, List.mem_of_getElem? hl', hk⟩))
      · rw [if_neg hm'] at hq; exact .inr (h.W.closed _ _ hq k hk)
  · intro k o x hx
    rw [hlv]
    rw [hSc] at hx
    by_cases hk : k = n
    · exact .inl hk
    · rw [if_neg hk] at hx; exact .inr (h.W.cellLive k o x hx)
  · rw [World.size_alloc]; exact Nat.le_succ_of_le h.W.size
  · intro k hk hn'
    rw [Below.heap_alloc w _ k (Nat.lt_of_lt_of_le hk h.W.size)]
    exact h.W.old k hk hn'
  · simpa [Act.put] using h.slots
  · intro i x hx
    rw [hSt] at hx
    simp only [Act.put, Array.getElem?_setIfInBounds]
    by_cases hi : d = i
    · rw [if_pos hi.symm] at hx; cases hx
      rw [if_pos hi, if_pos (by rw [h.slots]; exact hi ▸ hd)]
    · rw [if_neg (fun e => hi e.symm)] at hx
      rw [if_neg hi, h.tmp i x hx]
      congr 1
      exact V.den_congr fun j hj => (hid j (h.W.closed _ _ hx j hj)).symm

theorem RealW.set (h : RealW c s ids w) {n o k : Nat} {ty : TypeId} {l : List C} (hb : s (.b n) = some (.b ty k)) (ho : o + l.length ≤ k) (hl : ∀ j ∈ l.flatMap C.names, live s j) (hm : n < c.m ∨ c.B ≤ ids n) :
    w.there (ids n) o l.length ∧ RealW c (upd s (cellsW n o l)) ids (w.setCells (ids n) o (l.map (C.den ids))) := by
  have hln : live s n := ⟨ty, k, hb⟩
  obtain ⟨cs, hcs, hsz⟩ := h.blk n ty k hb
  have hth : w.there (ids n) o l.length := fun j hj => by
    constructor
    · simp [World.cell?, hcs]; omega
    · simp [World.frozen?, hcs]
  refine ⟨hth, ?_⟩
  generalize hS : upd s (cellsW n o l) = S
  have hSb : ∀ k, S (.b k) = s (.b k) := fun k => by rw [← hS]; simp [upd, lookW_cells]
  have hSt : ∀ k, S (.t k) = s (.t k) := fun k => by rw [← hS]; simp [upd, lookW_cells]
  have hSc : ∀ k p, S (.c k p) = if k = n ∧ o ≤ p then (match l[p - o]? with | some x => some (.c x) | none => s (.c k p)) else s (.c k p) := fun k p => by
    rw [← hS]
    simp only [upd, lookW_cells]
    by_cases hk : k = n ∧ o ≤ p
    · rw [if_pos hk, if_pos hk]
      cases l[p - o]? <;> simp
    · rw [if_neg hk, if_neg hk]; simp
  have hlv : ∀ k, live S k ↔ live s k := fun k => by simp only [live, hSb]
  have hg := setCells_grown (ids n) (l.map (C.den ids)) o w
  have hblk : ∀ (vs : List Value) (o' : Nat) (W : World) (cs : Array Value), W.heap[ids n]? = some (.cells cs ty (0, 0)) → ∃ cs', (W.setCells (ids n) o' vs).heap[ids n]? = some (.cells cs' ty (0, 0)) ∧ cs'.size = cs.size := by
    intro vs
    induction vs with
    | nil => intro o' W cs hc; exact ⟨cs, hc, rfl⟩
    | cons v r ih =>
      intro o' W cs hc
      rw [World.setCells]
      obtain ⟨cs', h1, h2⟩ := ih (o' + 1) (W.setCell ⟨ids n, o', none⟩ v) (cs.setIfInBounds o' v) (by simp [World.setCell, Array.getElem?_modify, hc])
      exact ⟨cs', h1, by simpa using h2⟩
  have hcell : cs = cs := rfl
  refine ⟨?_, ?_, ?_, h.given, ?_, ?_, ?_, hg.os.trans h.os, hg.tape.trans h.tape, hg.output.trans h.output, Nat.le_trans h.size hg.size, ?_, fun D hD => (hg.block D (Array.getElem?_eq_some_iff.1 (h.marks D hD)).1 (fun e => by
    have e : D = ids n := by simpa using e
    have := h.marks D hD
    rw [e, hcs] at this; cases this)).trans (h.marks D hD)⟩
  · intro k p x hx
    rw [hSc] at hx
    by_cases hk : k = n ∧ o ≤ p
    · obtain ⟨rfl, hp⟩ := hk
      rw [if_pos ⟨rfl, hp⟩] at hx
      cases hl' : l[p - o]? with
      | some y =>
        rw [hl'] at hx; cases hx
        have hlen : p - o < l.length := (List.getElem?_eq_some_iff.1 hl').1
        have := World.cell?_setCells_in (ids k) (l.map (C.den ids)) o w (fun i hi => (hth i (by simpa using hi)).1) (p - o) (by simpa using hlen)
        rw [show p = o + (p - o) from by omega, this]
        have hy : l[p - o] = x := (List.getElem?_eq_some_iff.1 hl').2
        simp [hy]
      | none =>
        rw [hl'] at hx
        have hlen : l.length ≤ p - o := by simpa using hl'
        rw [World.cell?_setCells_out (ids k) (l.map (C.den ids)) o w ⟨ids k, p, none⟩ (fun _ _ => by simp; omega)]
        exact h.cell _ _ _ hx
    · rw [if_neg hk] at hx
      have hlk := h.cellLive k p _ hx
      rw [World.cell?_setCells_out (ids n) (l.map (C.den ids)) o w ⟨ids k, p, none⟩ (fun hbl _ => by
        have : k = n := h.inj k n hlk hln (by simpa using hbl)
        left
        have : ¬ o ≤ p := fun hp => hk ⟨this, hp⟩
        simpa using this)]
      exact h.cell _ _ _ hx
  · intro k t q hx
    rw [hSb] at hx
    by_cases hk : k = n
    · subst hk
      rw [hb] at hx; cases hx
      obtain ⟨cs', h1, h2⟩ := hblk (l.map (C.den ids)) o w cs hcs
      exact ⟨cs', h1, by rw [h2, hsz]⟩
    · obtain ⟨cs2, hc2, hs2⟩ := h.blk k t q hx
      refine ⟨cs2, ?_, hs2⟩
      rw [hg.block (ids k) (h.lt ⟨t, q, hx⟩) (fun e => hk (h.inj k n ⟨t, q, hx⟩ hln (by simpa using e)))]
      exact hc2
  · intro k k' h1 h2; exact h.inj k k' ((hlv k).1 h1) ((hlv k').1 h2)
  · intro k hk h1; exact h.own k hk ((hlv k).1 h1)
  · intro q x hq j hj
    rw [hlv]
    cases q with
    | t i => rw [hSt] at hq; exact h.closed _ _ hq j hj
    | b m => rw [hSb] at hq; exact h.closed _ _ hq j hj
    | c m p =>
      rw [hSc] at hq
      by_cases hk : m = n ∧ o ≤ p
      · rw [if_pos hk] at hq
        cases hl' : l[p - o]? with
        | none => rw [hl'] at hq; exact h.closed _ _ hq j hj
        | some y => rw [hl'] at hq; cases hq; exact hl j (List.mem_flatMap.2 ⟨y, List.mem_of_getElem? hl', hj⟩)
      · rw [if_neg hk] at hq; exact h.closed _ _ hq j hj
  · intro k p x hx
    rw [hlv]
    rw [hSc] at hx
    by_cases hk : k = n ∧ o ≤ p
    · rw [hk.1]; exact hln
    · rw [if_neg hk] at hx; exact h.cellLive k p x hx
  · intro k hk hn'
    rw [hg.block k (Nat.lt_of_lt_of_le hk h.size) (fun e => ?_)]
    · exact h.old k hk hn'
    · have e : k = ids n := by simpa using e
      rcases hm with hm | hm
      · exact hn' n hm (by rw [← h.given n hm, e])
      · omega
theorem Real.store (h : Real c s ids a w) {n o k : Nat} {ty : TypeId} {l : List C} (hb : s (.b n) = some (.b ty k)) (ho : o + l.length ≤ k) (hl : ∀ j ∈ l.flatMap C.names, live s j) :
    w.there (ids n) o l.length ∧ Real c (upd s (cellsW n o l)) ids a (w.setCells (ids n) o (l.map (C.den ids))) := by
  have hm : n < c.m ∨ c.B ≤ ids n := by
    by_cases hn : n < c.m
    · exact .inl hn
    · exact .inr (h.W.own n (by omega) ⟨ty, k, hb⟩)
  obtain ⟨h1, h2⟩ := h.W.set hb ho hl hm
  refine ⟨h1, h2, h.defers, h.slots, fun i v hx => h.tmp i v ?_⟩
  rw [← hx]; simp [upd, lookW_cells]
end
end Go.Proofs.Ytbjogekhedglgaa.SX
