/- States by names: loads, stores, new variables. No program in sight. -/
import Derived.Test.YtbjogekhedglgaaEv5
namespace Go.Proofs.Ytbjogekhedglgaa.EV
open Go.RowKit

def put0 {α : Type} : List α → List α → List α
  | [], l => l
  | x :: xs, _ :: l => x :: put0 xs l
  | _ :: _, [] => []
def putL {α : Type} : Nat → List α → List α → List α
  | 0, vs, l => put0 vs l
  | o + 1, vs, y :: l => y :: putL o vs l
  | _ + 1, _, [] => []
theorem put0_length {α : Type} : ∀ (vs l : List α), (put0 vs l).length = l.length
  | [], _ => rfl
  | x :: xs, y :: l => by simp [put0, put0_length xs l]
  | _ :: _, [] => rfl
theorem putL_length {α : Type} : ∀ (o : Nat) (vs l : List α), (putL o vs l).length = l.length
  | 0, vs, l => put0_length vs l
  | o + 1, xs, y :: l => by simp [putL, putL_length o xs l]
  | _ + 1, _, [] => rfl
theorem put0_get {α : Type} : ∀ (vs l : List α) (i : Nat), vs.length ≤ l.length → (put0 vs l)[i]? = if i < vs.length then vs[i]? else l[i]?
  | [], l, i, _ => by simp [put0]
  | x :: xs, [], i, h => by simp at h
  | x :: xs, y :: l, 0, _ => by simp [put0]
  | x :: xs, y :: l, i + 1, h => by
    have := put0_get xs l i (by simp at h ⊢; omega)
    simp only [put0, List.getElem?_cons_succ, this, List.length_cons]
    by_cases hi : i < xs.length
    · rw [if_pos hi, if_pos (by omega)]
    · rw [if_neg hi, if_neg (by omega)]
theorem putL_get {α : Type} : ∀ (o : Nat) (vs l : List α) (i : Nat), o + vs.length ≤ l.length → (putL o vs l)[i]? = if o ≤ i ∧ i < o + vs.length then vs[i - o]? else l[i]?
  | 0, vs, l, i, h => by
    have := put0_get vs l i (by omega)
    simp only [putL, this, Nat.zero_le, true_and, Nat.zero_add, Nat.sub_zero]
  | o + 1, xs, [], i, h => by simp at h
  | o + 1, xs, y :: l, 0, h => by simp [putL]
  | o + 1, xs, y :: l, i + 1, h => by
    have := putL_get o xs l i (by simp at h; omega)
    simp only [putL, List.getElem?_cons_succ, this]
    by_cases hi : o ≤ i ∧ i < o + xs.length
    · rw [if_pos hi, if_pos (by omega), show i + 1 - (o + 1) = i - o by omega]
    · rw [if_neg hi, if_neg (by omega)]
theorem put0_map {α β : Type} (f : α → β) : ∀ (vs l : List α), (put0 vs l).map f = put0 (vs.map f) (l.map f)
  | [], l => rfl
  | x :: xs, y :: l => by simp [put0, put0_map f xs l]
  | _ :: _, [] => rfl
theorem putL_map {α β : Type} (f : α → β) : ∀ (o : Nat) (vs l : List α), (putL o vs l).map f = putL o (vs.map f) (l.map f)
  | 0, vs, l => put0_map f vs l
  | o + 1, xs, y :: l => by simp [putL, putL_map f o xs l]
  | _ + 1, _, [] => rfl
theorem put0_mem {α : Type} : ∀ (vs l : List α) (x : α), x ∈ put0 vs l → x ∈ vs ∨ x ∈ l
  | [], l, x, h => .inr h
  | v :: xs, y :: l, x, h => by
    simp only [put0, List.mem_cons] at h ⊢
    rcases h with h | h
    · exact .inl (.inl h)
    · rcases put0_mem xs l x h with h | h
      · exact .inl (.inr h)
      · exact .inr (.inr h)
  | _ :: _, [], x, h => by cases h
theorem putL_mem {α : Type} : ∀ (o : Nat) (vs l : List α) (x : α), x ∈ putL o vs l → x ∈ vs ∨ x ∈ l
  | 0, vs, l, x, h => put0_mem vs l x h
  | o + 1, xs, y :: l, x, h => by
    simp only [putL, List.mem_cons] at h ⊢
    rcases h with h | h
    · exact .inr (.inl h)
    · rcases putL_mem o xs l x h with h | h
      · exact .inl h
      · exact .inr (.inr h)
  | _ + 1, _, [], x, h => by cases h
theorem setCells_spec (b : Nat) : ∀ (vs : List Value) (o : Nat) (w : World) (cs : Array Value) (ty : TypeId) (fz : Nat × Nat), w.heap[b]? = some (.cells cs ty fz) →
    ∃ cs' : Array Value, (w.setCells b o vs).heap[b]? = some (.cells cs' ty fz) ∧ cs'.size = cs.size ∧ ∀ i, cs'[i]? = if o ≤ i ∧ i < o + vs.length ∧ i < cs.size then vs[i - o]? else cs[i]?
  | [], o, w, cs, ty, fz, h => ⟨cs, h, rfl, fun i => by rw [if_neg (by simp; omega)]⟩
  | v :: vs, o, w, cs, ty, fz, h => by
    rw [World.setCells]
    obtain ⟨cs', h1, h2, h3⟩ := setCells_spec b vs (o + 1) (w.setCell ⟨b, o, none⟩ v) (cs.setIfInBounds o v) ty fz (by simp [World.setCell, Array.getElem?_modify, h])
    refine ⟨cs', h1, by simpa using h2, fun i => ?_⟩
    rw [h3]
    simp only [Array.size_setIfInBounds, List.length_cons]
    by_cases hi : o + 1 ≤ i ∧ i < o + 1 + vs.length ∧ i < cs.size
    · rw [if_pos hi, if_pos (by omega), show i - o = i - (o + 1) + 1 by omega]; simp
    · rw [if_neg hi, Array.getElem?_setIfInBounds]
      by_cases he : o = i
      · subst he
        rw [if_pos rfl]
        by_cases hl : o < cs.size
        · rw [if_pos hl, if_pos (by omega)]; simp
        · rw [if_neg hl, if_neg (by omega)]; simp [hl]
      · rw [if_neg he, if_neg (by omega)]
theorem setCells_other (b : Nat) (vs : List Value) (o : Nat) (w : World) (k : Nat) (h : k ≠ b) : (w.setCells b o vs).heap[k]? = w.heap[k]? := by
  by_cases hk : k < w.heap.size
  · exact (setCells_grown b vs o w).block k hk (by simpa using h)
  · have hs : ∀ (vs : List Value) (o : Nat) (w : World), (w.setCells b o vs).heap.size = w.heap.size := by
      intro vs
      induction vs with
      | nil => intro o w; rfl
      | cons v r ih => intro o w; rw [World.setCells, ih]; simp [World.setCell]
    rw [Array.getElem?_eq_none (by rw [hs]; omega), Array.getElem?_eq_none (by omega)]

/-- The cells of what is laid down. -/
inductive CV (s : Sf) : V → List C → List Key → Prop
  | v {X : Value} : X.oneCell' = true → CV s (.c (.v X)) [.v X] []
  | n {x : C} {n : Nat} : x.names = [n] → s (.l n) = some (.l true) → CV s (.c x) [x] [.l n]
  | f {g : FuncId} {ca : List (Nat × Nat)} {ks : List Key} : (∀ q ∈ ca, s (.l q.1) = some (.l true) ∧ Key.l q.1 ∈ ks) → CV s (.c (.f g ca)) [.f g ca] ks
  | a {l : List C} : CV s (.a l) l []
section
variable {c : Ctx} {F : Fence} {nn : Nat} {σ s : Sf} {e : Env} {a : Act} {w : World}
theorem cells_one {u : Value} (h : u.oneCell' = true) : u.cells.toList = [u] := by
  cases u <;> first | rfl | cases h
theorem Rep.one {x : C} {u : Value} (h : Rep e x u) (hx : ∀ X, x ≠ .v X) : u.oneCell' = true := by
  cases x with
  | v X => exact absurd rfl (hx X)
  | p n o => simp only [Rep] at h; rw [h]; rfl
  | s n o l k => rcases h with h | ⟨_, _, p, h⟩ <;> rw [h] <;> rfl
  | g n o l b z => rcases h with ⟨k, h, _⟩ | ⟨_, _, p, h⟩ <;> rw [h] <;> rfl
  | f g ca => simp only [Rep] at h; rw [h]; rfl
  | y n => simp only [Rep] at h; rw [h]; rfl
theorem CV.sound {v : V} {l : List C} {ks : List Key} (h : CV σ v l ks) (hag : ∀ q ∈ ks, s q = σ q) {u : Value} (hu : OkV s e v u) : ∃ us, u.cells.toList = us ∧ OkL s e l us := by
  cases h with
  | v hX =>
    have := Ok.plain hu; subst this
    exact ⟨_, cells_one hX, _, [], rfl, ⟨hX, fun _ => rfl⟩, rfl⟩
  | @n x n hx hl =>
    have hr : Rep e x u := hu fun m hm => by
      rw [hx] at hm; simp at hm; subst hm
      unfold live; rw [hag _ (by simp)]; exact hl
    have h1 := hr.one (fun X hX => by subst hX; cases hx)
    exact ⟨_, cells_one h1, u, [], rfl, ⟨h1, fun _ => hr⟩, rfl⟩
  | @f g ca ks hl =>
    have hr : Rep e (.f g ca) u := hu fun m hm => by
      simp only [C.names, List.mem_map] at hm
      obtain ⟨q, hq, rfl⟩ := hm
      unfold live; rw [hag _ (hl q hq).2]; exact (hl q hq).1
    have h1 := hr.one (fun X hX => by cases hX)
    exact ⟨_, cells_one h1, u, [], rfl, ⟨h1, fun _ => hr⟩, rfl⟩
  | a =>
    obtain ⟨us, hu, h1⟩ := hu
    exact ⟨us, by rw [hu]; rfl, h1⟩
theorem CV.names {v : V} {l : List C} {ks : List Key} (h : CV σ v l ks) {n : Nat} (hn : n ∈ l.flatMap C.names) : n ∈ v.names := by
  cases h with
  | v hX => simp [C.names] at hn
  | n hx hl => simpa [V.names] using hn
  | f hl => simpa [V.names] using hn
  | a => exact hn
theorem OkL.all_one : ∀ {l : List C} {us : List Value}, OkL s e l us → ∀ u ∈ us, u.oneCell' = true
  | [], _, h, u, hu => by rw [h] at hu; cases hu
  | x :: l, _, ⟨u, r, he, h1, h2⟩, u', hu' => by
    rw [he] at hu'
    simp only [List.mem_cons] at hu'
    rcases hu' with rfl | hu'
    · exact h1.one
    · exact h2.all_one u' hu'
/-- A new row of cells, all known. -/
theorem MOk.made {n : Nat} {own : Bool} {l : List C} {us : List Value} {i b r : Nat} {ty : TypeId} (h : OkL s e l us) (hid : e.id n = w.heap.size) (hbs : e.bs n = 0) (hrm : e.rm n = us.length) : MOk s e (w.alloc (.cells us.toArray ty)) n own l := by
  refine ⟨by rw [hrm, h.length]; exact Nat.le_refl _, .inr ⟨us.toArray, ty, (0, 0), by rw [hid]; exact World.alloc_heap_new w _, fun _ => .inl rfl, by rw [hbs, hrm]; simp, fun i x hx => ?_⟩⟩
  rw [hbs]
  obtain ⟨u, h1, h2⟩ := h.get hx
  exact ⟨u, by simpa using h1, h2⟩
theorem Real.row (h : Real c s e a w) {n : Nat} (hm : ¬ c.gv n) (hn : s (.l n) = none) {l : List C} {us : List Value} (hl : OkL s e l us) (hnm : ∀ k ∈ l.flatMap C.names, s (.l k) ≠ none) (ty : TypeId) :
    Real c (upd s (wsNew n (.m true l))) (e.set n w.heap.size 0 us.length) a (w.alloc (.cells us.toArray ty)) :=
  h.new hm hn _ _ (MOk.made (i := 0) (b := 0) (r := 0) (hl.mono fun k hk => ⟨(wsNew_live (not_live hn (hnm k hk))).1, (Env.set_ne e (not_live hn (hnm k hk))).symm⟩) (Env.set_id ..) (Env.set_bs ..) (Env.set_rm ..)) (fun k hk => .inr (hnm k hk))
theorem Real.rowW (h : Real c s e a w) {n : Nat} (hm : ¬ c.gv n) (hn : s (.l n) = none) {us : List Value} (h1 : us.all (·.oneCell') = true) (ty : TypeId) :
    Real c (upd s (wsNew n (.w true us))) (e.set n w.heap.size 0 us.length) a (w.alloc (.cells us.toArray ty)) :=
  h.new hm hn _ _ (MOk.made (i := 0) (b := 0) (r := 0) (OkL.plain us h1) (Env.set_id ..) (Env.set_bs ..) (Env.set_rm ..)) (fun k hk => by cases hk)
theorem run_newVar {P : Program} {w : World} {t : TypeId} {v : Value} : (newVar t v).run P w = .ok ⟨w.heap.size, 0, none⟩ (w.alloc (.cells v.cells t)) := rfl
def zeroC (P : Program) (t : TypeId) : Option (List Value) := match P.info? t with
  | some i => match i.zero with
    | some z => if z.cells.toList.all (·.oneCell') = true then some z.cells.toList else none
    | none => none
  | none => none
theorem run_zero {P : Program} {t : TypeId} {zs : List Value} (h : zeroC P t = some zs) : ∃ z, (zeroValue t).run P w = .ok z w ∧ z.cells = zs.toArray ∧ zs.all (·.oneCell') = true := by
  unfold zeroC at h
  cases hi : P.info? t with
  | none => rw [hi] at h; cases h
  | some i =>
    rw [hi] at h
    simp only at h
    cases hz : i.zero with
    | none => rw [hz] at h; cases h
    | some z =>
      rw [hz] at h
      simp only at h
      split at h
      · rename_i h1
        cases h
        exact ⟨z, by simp [zeroValue, typeInfo, hi, hz], by simp, h1⟩
      · cases h
theorem new_alive {n : Nat} {b : B} : upd s (wsNew n b) (.l n) ≠ none := by rw [wsNew_l, if_pos rfl]; simp
theorem LocalO.alloc (hF : WideLike F) {n : Nat} {t : TypeId} {zs : List Value} {d : Option Tmp} {rt : TypeId} {pos : String} {af : Array Edge} {g : Option (Nat × Bool)} (hN : dOk c.N d = true) (hz : zeroC c.P t = some zs) (hm : ¬ c.gv n) (hn : σ (.l n) = none) :
    LocalO c F nn ⟨d, .alloc t, rt, pos, af, g⟩ σ ⟨kr [.l n], putW d (.c (.p n 0)) ++ wsNew n (.m true (zs.map C.v))⟩ := by
  refine LocalO.act hF hN (noDefer rfl) fun s e a w hag hR => ?_
  obtain ⟨z, h1, h2, h3⟩ := run_zero (w := w) hz
  have hn' : s (.l n) = none := by rw [hag _ (kr_iff.2 (by simp))]; exact hn
  refine ⟨.pointer (some ⟨w.heap.size, 0, none⟩), _, _, ?_, hR.row hm hn' (OkL.plain zs h3) (fun k hk => by rw [plain_names] at hk; cases hk) t, fun _ => ?_, fun k hk => ?_⟩
  · simp only [execOp, Instr.alloc, Sem.run_bind, h1, Result.andThen_ok, run_newVar, h2, Sem.run_pure]
  · simp [Rep, Env.set_id, Env.set_bs]
  · simp [V.names, C.names] at hk; subst hk; exact new_alive
theorem LocalO.box (hF : WideLike F) {n : Nat} {t : TypeId} {x : Operand} {v : V} {l : List C} {ks : List Key} {d : Option Tmp} {rt : TypeId} {pos : String} {af : Array Edge} {g : Option (Nat × Bool)} (hN : dOk c.N d = true) (hx : opv σ x = some v) (hl : CV σ v l ks) (hm : ¬ c.gv n) (hn : σ (.l n) = none) :
    LocalO c F nn ⟨d, .box t x, rt, pos, af, g⟩ σ ⟨kr (.l n :: (ks ++ opk x)), putW d (.c (.p n 0)) ++ wsNew n (.m true l)⟩ := by
  refine LocalO.act hF hN (noDefer rfl) fun s e a w hag hR => ?_
  have hag' : ∀ q ∈ Key.l n :: (ks ++ opk x), s q = σ q := fun q hq => hag q (kr_iff.2 hq)
  have hn' : s (.l n) = none := by rw [hag' _ (by simp)]; exact hn
  obtain ⟨h1, h2⟩ := ev1 hx hag' (fun q h => by simp [h]) hR
  obtain ⟨us, h3, h4⟩ := hl.sound (fun q hq => hag' q (by simp [hq])) h1
  refine ⟨.pointer (some ⟨w.heap.size, 0, none⟩), _, _, ?_, hR.row hm hn' h4 (fun k hk => h2 k (hl.names hk)) t, fun _ => ?_, fun k hk => ?_⟩
  · have e1 : (a.eval x).cells = us.toArray := by rw [← h3]
    simp only [execOp, Instr.box, Sem.run_bind, run_newVar, Result.andThen_ok, e1, Sem.run_pure]
  · simp [Rep, Env.set_id, Env.set_bs]
  · simp [V.names, C.names] at hk; subst hk; exact new_alive

/-! ### Loads -/
theorem MOk.range {n : Nat} {own : Bool} {l : List C} (h : MOk s e w n own l) (o k : Nat) (hk : o + k ≤ l.length) : ∃ us : List Value, us.length = k ∧ OkL s e ((l.drop o).take k) us ∧ w.rangeAt (e.id n) (e.bs n + o) us := by
  obtain ⟨h1, h2⟩ := h
  by_cases hk0 : k = 0
  · subst hk0
    exact ⟨[], rfl, by simp [OkL], fun j v hv => by simp at hv⟩
  rcases h2 with h2 | ⟨cs, ty, fz, h3, h4, h5, h6⟩
  · omega
  · refine ⟨((cs.toList.drop (e.bs n + o)).take k), by simp; omega, OkL.mk (by simp; omega) fun i x hx => ?_, fun j v hv => ?_⟩
    · rw [List.getElem?_take] at hx ⊢
      split at hx
      · rename_i hi
        rw [if_pos hi]
        rw [List.getElem?_drop] at hx ⊢
        obtain ⟨u, h7, h8⟩ := h6 (o + i) x hx
        exact ⟨u, by rw [← h7, Nat.add_assoc]; simp, h8⟩
      · cases hx
    · rw [List.getElem?_take] at hv
      split at hv
      · rw [List.getElem?_drop] at hv
        simp only [World.cell?, h3]
        simpa using hv
      · cases hv
theorem MOk.cell {n : Nat} {own : Bool} {l : List C} {o : Nat} {x : C} (h : MOk s e w n own l) (hx : l[o]? = some x) : ∃ u, w.cell? ⟨e.id n, e.bs n + o, none⟩ = some u ∧ Okc s e x u := by
  obtain ⟨h1, h2⟩ := h
  have hl : o < l.length := (List.getElem?_eq_some_iff.1 hx).1
  rcases h2 with h2 | ⟨cs, ty, fz, h3, h4, h5, h6⟩
  · omega
  · obtain ⟨u, h7, h8⟩ := h6 o x hx
    exact ⟨u, by simpa [World.cell?, h3] using h7, h8⟩
/-- A block's cells, whichever way they are told. -/
def B.cellsC : B → Option (Bool × List C)
  | .m o l => some (o, l)
  | .w o l => some (o, l.map C.v)
  | _ => none
theorem RealW.cells (h : RealW c s e w) {n : Nat} {b : B} {own : Bool} {l : List C} (ha : s (.l n) = some (.l true)) (hb : s (.b n) = some (.b b)) (hl : b.cellsC = some (own, l)) : MOk s e w n own l := by
  have := h.blk n b ha hb
  cases b with
  | m o l' => cases hl; exact this
  | w o l' => cases hl; exact this
  | _ => cases hl
theorem B.cellsC_names {b : B} {own : Bool} {l : List C} (hl : b.cellsC = some (own, l)) : l.flatMap C.names = b.names := by
  cases b with
  | m o l' => cases hl; rfl
  | w o l' => cases hl; exact plain_names _
  | _ => cases hl
theorem LocalO.load1 (hF : WideLike F) {n o : Nat} {t : TypeId} {x : Operand} {b : B} {own : Bool} {l : List C} {z : C} {d : Option Tmp} {rt : TypeId} {pos : String} {af : Array Edge} {g : Option (Nat × Bool)} (hN : dOk c.N d = true) (hx : opv σ x = some (.c (.p n o))) (ha : σ (.l n) = some (.l true)) (hb : σ (.b n) = some (.b b)) (hl : b.cellsC = some (own, l))
    (ht : tRow c.P t = some false) (hz : l[o]? = some z) : LocalO c F nn ⟨d, .load t x, rt, pos, af, g⟩ σ ⟨kr (.l n :: .b n :: opk x), putW d (.c z)⟩ := by
  refine LocalO.val hF hN (noDefer rfl) fun s e a w hag hR => ?_
  have hag' : ∀ q ∈ Key.l n :: .b n :: opk x, s q = σ q := fun q hq => hag q (kr_iff.2 hq)
  have ex := ev1r hx hag' (fun q h => by simp [h]) hR rfl ha (by simp)
  simp only [Rep] at ex
  have hM := hR.W.cells (n := n) (by rw [hag' _ (by simp)]; exact ha) (by rw [hag' _ (by simp)]; exact hb) hl
  obtain ⟨u, h1, h2⟩ := hM.cell hz
  refine ⟨u, ?_, h2.ok, fun m hm => hR.W.cl.1 (.b n) (.b b) (by rw [hag' _ (by simp)]; exact hb) m ?_⟩
  · simp only [execOp, ex, Instr.loadAt, Instr.sureAddr, Sem.run_bind, Sem.run_pure, Result.andThen_ok, loadVar, run_row ht]
    simp [run_load, h1]
  · show m ∈ b.names
    rw [← B.cellsC_names hl]
    exact List.mem_flatMap.2 ⟨z, List.mem_of_getElem? hz, hm⟩
theorem LocalO.loadA (hF : WideLike F) {n o k : Nat} {t : TypeId} {x : Operand} {b : B} {own : Bool} {l : List C} {d : Option Tmp} {rt : TypeId} {pos : String} {af : Array Edge} {g : Option (Nat × Bool)} (hN : dOk c.N d = true) (hx : opv σ x = some (.c (.p n o))) (ha : σ (.l n) = some (.l true)) (hb : σ (.b n) = some (.b b)) (hl : b.cellsC = some (own, l))
    (ht : tRow c.P t = some true) (hk : tS c.P t = some k) (hle : o + k ≤ l.length) : LocalO c F nn ⟨d, .load t x, rt, pos, af, g⟩ σ ⟨kr (.l n :: .b n :: opk x), putW d (.a ((l.drop o).take k))⟩ := by
  refine LocalO.val hF hN (noDefer rfl) fun s e a w hag hR => ?_
  have hag' : ∀ q ∈ Key.l n :: .b n :: opk x, s q = σ q := fun q hq => hag q (kr_iff.2 hq)
  have ex := ev1r hx hag' (fun q h => by simp [h]) hR rfl ha (by simp)
  simp only [Rep] at ex
  have hM := hR.W.cells (n := n) (by rw [hag' _ (by simp)]; exact ha) (by rw [hag' _ (by simp)]; exact hb) hl
  obtain ⟨us, h1, h2, h3⟩ := hM.range o k hle
  refine ⟨.agg us.toArray, ?_, ⟨us, rfl, h2⟩, fun m hm => hR.W.cl.1 (.b n) (.b b) (by rw [hag' _ (by simp)]; exact hb) m ?_⟩
  · have hl' : (loadCells ⟨e.id n, e.bs n + o, none⟩ us.length).run c.P w = .ok us.toArray w :=
      run_loadCells_list (P := c.P) w ⟨e.id n, e.bs n + o, none⟩ us (fun j v hv => by rw [Addr.add_mid]; exact h3 j v hv)
    simp only [execOp, ex, Instr.loadAt, Instr.sureAddr, Sem.run_bind, Sem.run_pure, Result.andThen_ok, loadVar, run_row ht, if_true, run_sz hk, ← h1, hl']
  · show m ∈ b.names
    rw [← B.cellsC_names hl]
    simp only [V.names, List.mem_flatMap] at hm ⊢
    obtain ⟨y, hy, hm⟩ := hm
    exact ⟨y, List.mem_of_mem_drop (List.mem_of_mem_take hy), hm⟩
/-- Cells of blocks that were there and stay as they are. -/
theorem RealW.old_cell (h : RealW c s e w) {b o : Nat} {z : Value} (hz : c.w0.cell? ⟨b, o, none⟩ = some z) (ht : ¬ c.tch b) : w.cell? ⟨b, o, none⟩ = some z := by
  have hb : b < c.B := by
    unfold World.cell? at hz
    split at hz
    · rename_i h; exact (Array.getElem?_eq_some_iff.1 h).1
    · cases hz
  rw [← hz]; exact World.cell?_of_block (a := ⟨b, o, none⟩) (h.old b hb ht)
theorem LocalO.loadO (hF : WideLike F) {b o : Nat} {t : TypeId} {x : Operand} {z : Value} {d : Option Tmp} {rt : TypeId} {pos : String} {af : Array Edge} {g : Option (Nat × Bool)} (hN : dOk c.N d = true) (hx : opv σ x = some (.c (.v (.pointer (some ⟨b, o, none⟩))))) (hz : c.w0.cell? ⟨b, o, none⟩ = some z) (hti : ¬ c.tch b)
    (ht : tRow c.P t = some false) : LocalO c F nn ⟨d, .load t x, rt, pos, af, g⟩ σ ⟨kr (opk x), putW d (.c (.v z))⟩ := by
  refine LocalO.val hF hN (noDefer rfl) fun s e a w hag hR => ⟨z, ?_, Ok.of, fun m hm => by cases hm⟩
  have ex := ev1v hx (fun q hq => hag q (kr_iff.2 hq)) (fun q h => h) hR
  have h1 := hR.W.old_cell hz hti
  simp only [execOp, ex, Instr.loadAt, Instr.sureAddr, Sem.run_bind, Sem.run_pure, Result.andThen_ok, loadVar, run_row ht]
  simp [run_load, h1]
theorem LocalO.loadOA (hF : WideLike F) {b o : Nat} {t : TypeId} {x : Operand} {L : List Value} {d : Option Tmp} {rt : TypeId} {pos : String} {af : Array Edge} {g : Option (Nat × Bool)} (hN : dOk c.N d = true) (hx : opv σ x = some (.c (.v (.pointer (some ⟨b, o, none⟩))))) (hz : ∀ j z, L[j]? = some z → c.w0.cell? ⟨b, o + j, none⟩ = some z) (hti : ¬ c.tch b)
    (ht : tRow c.P t = some true) (hk : tS c.P t = some L.length) (h1 : L.all (·.oneCell') = true) : LocalO c F nn ⟨d, .load t x, rt, pos, af, g⟩ σ ⟨kr (opk x), putW d (.a (L.map C.v))⟩ := by
  refine LocalO.val hF hN (noDefer rfl) fun s e a w hag hR => ⟨.agg L.toArray, ?_, ⟨L, rfl, OkL.plain L h1⟩, fun m hm => by rw [V.names, plain_names] at hm; cases hm⟩
  have ex := ev1v hx (fun q hq => hag q (kr_iff.2 hq)) (fun q h => h) hR
  have hl' : (loadCells ⟨b, o, none⟩ L.length).run c.P w = .ok L.toArray w :=
    run_loadCells_list (P := c.P) w ⟨b, o, none⟩ L (fun j v hv => by rw [Addr.add_mid]; exact hR.W.old_cell (hz j v hv) hti)
  simp only [execOp, ex, Instr.loadAt, Instr.sureAddr, Sem.run_bind, Sem.run_pure, Result.andThen_ok, loadVar, run_row ht, if_true, run_sz hk, hl']

/-! ### Stores -/
theorem MOk.put {n o : Nat} {l vs : List C} {us : List Value} (h : MOk s e w n true l) (hv : OkL s e vs us) (hle : o + vs.length ≤ l.length) (h0 : vs ≠ []) :
    e.rm n ≠ 0 ∧ (∀ j, j < us.length → (w.cell? ⟨e.id n, e.bs n + o + j, none⟩).isSome = true ∧ w.frozen? ⟨e.id n, e.bs n + o + j, none⟩ = false) ∧ MOk s e (w.setCells (e.id n) (e.bs n + o) us) n true (putL o vs l) := by
  obtain ⟨h1, h2⟩ := h
  have hlen := hv.length
  have h00 : 0 < vs.length := by cases vs with
    | nil => exact absurd rfl h0
    | cons _ _ => simp
  rcases h2 with h2 | ⟨cs, ty, fz, h3, h4, h5, h6⟩
  · omega
  · obtain ⟨cs', g1, g2, g3⟩ := setCells_spec (e.id n) us (e.bs n + o) w cs ty fz h3
    refine ⟨by omega, fun j hj => ⟨?_, ?_⟩, by rw [putL_length]; exact h1, .inr ⟨cs', ty, fz, g1, h4, by rw [g2]; exact h5, fun i x hx => ?_⟩⟩
    · simp [World.cell?, h3]; omega
    · have := unfroz (h4 rfl) (i := o + j) (by omega)
      simp only [World.frozen?, h3]
      rw [← Bool.not_eq_true]
      intro hb
      simp only [Bool.and_eq_true, decide_eq_true_eq] at hb
      exact this ⟨by omega, by omega⟩
    · rw [putL_get o vs l i hle] at hx
      rw [g3]
      split at hx
      · rename_i hi
        have hil : i - o < vs.length := by omega
        rw [if_pos (by omega), show e.bs n + i - (e.bs n + o) = i - o by omega]
        exact hv.get hx
      · rename_i hi
        rw [if_neg (by omega)]
        exact h6 i x hx
theorem run_store {P : Program} {t : TypeId} {b o : Nat} {u : Value} {us : List Value} (hu : u.cells.toList = us) (hk : tS P t = some us.length) (h1 : ∀ v ∈ us, v.oneCell' = true) (hth : ∀ j, j < us.length → (w.cell? ⟨b, o + j, none⟩).isSome = true ∧ w.frozen? ⟨b, o + j, none⟩ = false) :
    (storeVar t ⟨b, o, none⟩ u).run P w = .ok () (w.setCells b o us) := by
  have hc := run_storeCells_cells (P := P) b o us 0 w (fun j hj => by simpa using (hth j hj).1) (fun j hj => by simpa using (hth j hj).2) h1
  have hs : u.cells.size = us.length := by rw [← hu]; simp
  simp only [storeVar, Sem.run_bind, run_sz hk, Result.andThen_ok, hs]
  simp [hu, hc]
theorem Real.store (h : Real c s e a w) {n o : Nat} {b : B} {l vs : List C} {us : List Value} (ha : s (.l n) = some (.l true)) (hb : s (.b n) = some (.b b)) (hl : b.cellsC = some (true, l)) (hv : OkL s e vs us) (hle : o + vs.length ≤ l.length) (h0 : vs ≠ []) (hnm : ∀ k ∈ vs.flatMap C.names, s (.l k) ≠ none)
    {b' : B} (hb' : b'.cellsC = some (true, putL o vs l)) :
    (∀ j, j < us.length → (w.cell? ⟨e.id n, e.bs n + o + j, none⟩).isSome = true ∧ w.frozen? ⟨e.id n, e.bs n + o + j, none⟩ = false) ∧ Real c (upd s [(.b n, .b b')]) e a (w.setCells (e.id n) (e.bs n + o) us) := by
  have hM := h.W.cells ha hb hl
  obtain ⟨g1, g2, g3⟩ := hM.put hv hle h0
  have hg := setCells_grown (e.id n) us (e.bs n + o) w
  have ho : b.own = true := by cases b with
    | m _ _ => cases hl; rfl
    | w _ _ => cases hl; rfl
    | _ => cases hl
  refine ⟨g2, h.chg ha hb (fun e => by subst e; cases hl) ho g1 (fun k hk => setCells_other _ _ _ _ k hk) hg.size hg.os hg.tape hg.output ?_ ?_⟩
  · have hl' : ∀ k, upd s [(.b n, .b b')] (.l k) = s (.l k) := fun k => by rw [upd_cons_ne _ _ _ (by simp), upd_nil]
    have g4 : MOk (upd s [(.b n, .b b')]) e (w.setCells (e.id n) (e.bs n + o) us) n true (putL o vs l) :=
      g3.mono (fun m _ => ⟨fun hx => by unfold live at *; rw [← hl']; exact hx, .rfl⟩) .rfl (fun _ => rfl)
    cases b' with
    | m _ _ => cases hb'; exact g4
    | w _ _ => simp only [B.cellsC, Option.some.injEq, Prod.mk.injEq] at hb'; obtain ⟨rfl, hb'⟩ := hb'; show MOk _ _ _ _ _ _; rw [hb']; exact g4
    | _ => cases hb'
  · intro k hk
    rw [← B.cellsC_names hb'] at hk
    simp only [List.mem_flatMap] at hk
    obtain ⟨x, hx, hk⟩ := hk
    rcases putL_mem o vs l x hx with hx | hx
    · exact hnm k (List.mem_flatMap.2 ⟨x, hx, hk⟩)
    · refine h.W.cl.1 (.b n) (.b b) hb k ?_
      show k ∈ b.names
      rw [← B.cellsC_names hl]
      exact List.mem_flatMap.2 ⟨x, hx, hk⟩
theorem LocalO.store (hF : WideLike F) {n o : Nat} {t : TypeId} {x y : Operand} {v : V} {b b' : B} {l vs : List C} {ks : List Key} {rt : TypeId} {pos : String} {af : Array Edge} {g : Option (Nat × Bool)} (hx : opv σ x = some (.c (.p n o))) (ha : σ (.l n) = some (.l true)) (hb : σ (.b n) = some (.b b)) (hl : b.cellsC = some (true, l))
    (hy : opv σ y = some v) (hv : CV σ v vs ks) (hk : tS c.P t = some vs.length) (hle : o + vs.length ≤ l.length) (h0 : vs ≠ []) (hb' : b'.cellsC = some (true, putL o vs l)) :
    LocalO c F nn ⟨none, .store t x y, rt, pos, af, g⟩ σ ⟨kr (.l n :: .b n :: (ks ++ (opk x ++ opk y))), [(.b n, .b b')]⟩ := by
  refine LocalO.deed hF rfl (noDefer rfl) fun s e a w hag hR => ?_
  have hag' : ∀ q ∈ Key.l n :: .b n :: (ks ++ (opk x ++ opk y)), s q = σ q := fun q hq => hag q (kr_iff.2 hq)
  have ex := ev1r hx hag' (fun q h => by simp [h]) hR rfl ha (by simp)
  simp only [Rep] at ex
  obtain ⟨h1, h2⟩ := ev1 hy hag' (fun q h => by simp [h]) hR
  obtain ⟨us, h3, h4⟩ := hv.sound (fun q hq => hag' q (by simp [hq])) h1
  obtain ⟨h5, h6⟩ := hR.store (n := n) (by rw [hag' _ (by simp)]; exact ha) (by rw [hag' _ (by simp)]; exact hb) hl h4 hle h0 (fun k hk => h2 k (hv.names hk)) hb'
  refine ⟨_, e, ?_, h6⟩
  have hst := run_store (P := c.P) h3 (by rw [h4.length]; exact hk) (fun v hv => h4.all_one v hv) h5
  simp only [execOp, ex, Instr.storeAt, Instr.sureAddr, Sem.run_bind, Sem.run_pure, Result.andThen_ok, hst]
end
end Go.Proofs.Ytbjogekhedglgaa.EV
