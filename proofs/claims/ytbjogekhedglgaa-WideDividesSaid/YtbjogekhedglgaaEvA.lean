/- States by names: literals, make, copy. No program in sight. -/
import Derived.Test.YtbjogekhedglgaaEv9
import Derived.IntWalk
namespace Go.Proofs.Ytbjogekhedglgaa.EV
open Go.RowKit

/-- The cells of the parts of a literal. -/
def fillC {α : Type} (place : Nat → Option (Nat × Nat)) : List α → List (Nat × List α) → Option (List α)
  | cells, [] => some cells
  | cells, (i, v) :: rest => match place i with
    | none => none
    | some (off, size) => if v.length = size ∧ off + v.length ≤ cells.length then fillC place (putL off v cells) rest else none
theorem fold_set (off : Nat) : ∀ (vs : List Value) (j0 : Nat) (cells : Array Value), ((vs.zipIdx j0).foldl (fun cs x => cs.setIfInBounds (off + x.2) x.1) cells).size = cells.size ∧
    ∀ i, ((vs.zipIdx j0).foldl (fun cs x => cs.setIfInBounds (off + x.2) x.1) cells)[i]? = if off + j0 ≤ i ∧ i < off + j0 + vs.length ∧ i < cells.size then vs[i - off - j0]? else cells[i]?
  | [], j0, cells => ⟨rfl, fun i => by rw [if_neg (by simp; omega)]; rfl⟩
  | v :: vs, j0, cells => by
    obtain ⟨h1, h2⟩ := fold_set off vs (j0 + 1) (cells.setIfInBounds (off + j0) v)
    rw [List.zipIdx_cons, List.foldl_cons]
    refine ⟨by rw [h1]; simp, fun i => ?_⟩
    rw [h2]
    simp only [Array.size_setIfInBounds, List.length_cons]
    by_cases hi : off + (j0 + 1) ≤ i ∧ i < off + (j0 + 1) + vs.length ∧ i < cells.size
    · rw [if_pos hi, if_pos (by omega), show i - off - j0 = i - off - (j0 + 1) + 1 by omega]; simp
    · rw [if_neg hi, Array.getElem?_setIfInBounds]
      by_cases he : off + j0 = i
      · subst he
        rw [if_pos rfl]
        by_cases hl : off + j0 < cells.size
        · rw [if_pos hl, if_pos (by omega)]; simp
        · rw [if_neg hl, if_neg (by omega)]; simp [hl]
      · rw [if_neg he, if_neg (by omega)]
theorem fold_put (off : Nat) (vs cells : List Value) (h : off + vs.length ≤ cells.length) : (vs.toArray.zipIdx.foldl (fun cs x => cs.setIfInBounds (off + x.2) x.1) cells.toArray) = (putL off vs cells).toArray := by
  obtain ⟨h1, h2⟩ := fold_set off vs 0 cells.toArray
  have e : vs.toArray.zipIdx.foldl (fun cs x => cs.setIfInBounds (off + x.2) x.1) cells.toArray = (vs.zipIdx 0).foldl (fun cs x => cs.setIfInBounds (off + x.2) x.1) cells.toArray := by
    rw [← Array.foldl_toList]; simp
  rw [e]
  apply Array.ext'
  apply List.ext_getElem?
  intro i
  have := h2 i
  rw [← Array.getElem?_toList] at this
  rw [this, putL_get off vs cells i h]
  simp only [Nat.add_zero, Nat.sub_zero, List.size_toArray]
  by_cases hi : off ≤ i ∧ i < off + vs.length
  · rw [if_pos ⟨hi.1, hi.2, by omega⟩, if_pos hi]
  · rw [if_neg (by omega), if_neg hi]; simp
theorem fill_ok {place : Nat → Option (Nat × Nat)} : ∀ {ps : List (Nat × Value)} {qs : List (Nat × List Value)} {cells r : List Value}, qs = ps.map (fun p => (p.1, p.2.cells.toList)) → fillC place cells qs = some r → Instr.fill place cells.toArray ps = some r.toArray
  | [], qs, cells, r, hq, h => by subst hq; simp only [List.map_nil, fillC, Option.some.injEq] at h; subst h; rfl
  | (i, v) :: ps, qs, cells, r, hq, h => by
    subst hq
    simp only [List.map_cons, fillC] at h
    simp only [Instr.fill]
    cases hp : place i with
    | none => rw [hp] at h; cases h
    | some q =>
      obtain ⟨off, size⟩ := q
      rw [hp] at h
      simp only at h ⊢
      split at h
      · rename_i hc
        obtain ⟨h1, h2⟩ := hc
        have e1 : v.cells.size = v.cells.toList.length := by simp
        have e2 : v.cells = v.cells.toList.toArray := by simp
        rw [if_neg (by simp [e1, h1]; omega)]
        rw [e2, fold_put off v.cells.toList cells h2]
        exact fill_ok rfl h
      · cases h
section
variable {c : Ctx} {F : Fence} {nn : Nat} {σ s : Sf} {e : Env} {a : Act} {w : World}
/-- The parts of a literal. -/
inductive Parts (s : Sf) : List (Nat × Operand) → List (Nat × List C) → List Key → Prop
  | nil : Parts s [] [] []
  | cons {i : Nat} {x : Operand} {v : V} {l : List C} {k1 ks : List Key} {ps : List (Nat × Operand)} {r : List (Nat × List C)} : opv s x = some v → CV s v l k1 → Parts s ps r ks → Parts s ((i, x) :: ps) ((i, l) :: r) (k1 ++ (opk x ++ ks))
theorem OkL.put {o : Nat} {l vs : List C} {us ws : List Value} (h : OkL s e l us) (k : OkL s e vs ws) (hle : o + vs.length ≤ l.length) : OkL s e (putL o vs l) (putL o ws us) := by
  have h1 := h.length
  have h2 := k.length
  refine OkL.mk (by rw [putL_length, putL_length, h1]) fun i x hx => ?_
  rw [putL_get o vs l i hle] at hx
  rw [putL_get o ws us i (by omega), h2]
  split at hx
  · rename_i hi; rw [if_pos hi]; exact k.get hx
  · rename_i hi; rw [if_neg hi]; exact h.get hx
theorem Parts.sound {ps : List (Nat × Operand)} {r : List (Nat × List C)} {ks : List Key} (h : Parts σ ps r ks) (hag : ∀ q ∈ ks, s q = σ q) (hR : Real c s e a w) {place : Nat → Option (Nat × Nat)} {cells out : List C} (hf : fillC place cells r = some out) {us : List Value} (hu : OkL s e cells us) (hnu : ∀ n ∈ cells.flatMap C.names, s (.l n) ≠ none) :
    ∃ ws, Instr.fill place us.toArray (ps.map fun p => (p.1, a.eval p.2)) = some ws.toArray ∧ OkL s e out ws ∧ ∀ n ∈ out.flatMap C.names, s (.l n) ≠ none := by
  induction h generalizing cells us with
  | nil => simp only [fillC, Option.some.injEq] at hf; subst hf; exact ⟨us, rfl, hu, hnu⟩
  | @cons i x v l k1 ks ps r hx hl h ih =>
    obtain ⟨h1, h2⟩ := ev1 hx hag (fun q hq => by simp [hq]) hR
    obtain ⟨ws, h3, h4⟩ := hl.sound (fun q hq => hag q (by simp [hq])) h1
    simp only [fillC] at hf
    cases hp : place i with
    | none => rw [hp] at hf; cases hf
    | some q =>
      obtain ⟨off, size⟩ := q
      rw [hp] at hf
      simp only at hf
      split at hf
      · rename_i hc
        obtain ⟨hc1, hc2⟩ := hc
        obtain ⟨zs, g1, g2, g3⟩ := ih (fun q hq => hag q (by simp [hq])) hf (hu.put h4 hc2) (fun n hn => by
          simp only [List.mem_flatMap] at hn
          obtain ⟨y, hy, hn⟩ := hn
          rcases putL_mem off l cells y hy with hy | hy
          · exact h2 n (hl.names (List.mem_flatMap.2 ⟨y, hy, hn⟩))
          · exact hnu n (List.mem_flatMap.2 ⟨y, hy, hn⟩))
        refine ⟨zs, ?_, g2, g3⟩
        have hlu := hu.length
        have hlw := h4.length
        have e2 : (a.eval x).cells = ws.toArray := by rw [← h3]
        simp only [List.map_cons, Instr.fill, hp, e2]
        rw [if_neg (by simp [hlw, hc1, hlu]; omega), fold_put off ws us (by omega)]
        exact g1
      · cases hf
def placesC (P : Program) : List Field → Option (List (Nat × Nat))
  | [] => some []
  | f :: fs => match tS P f.type, placesC P fs with
    | some k, some r => some ((f.offset, k) :: r)
    | _, _ => none
theorem run_places {P : Program} : ∀ {fs : List Field} {pl : List (Nat × Nat)}, placesC P fs = some pl → (fs.mapM (m := Sem) fun f => do pure (f.offset, ← sizeOf f.type)).run P w = .ok pl w
  | [], pl, h => by simp only [placesC, Option.some.injEq] at h; subst h; rfl
  | f :: fs, pl, h => by
    simp only [placesC] at h
    split at h
    · rename_i k r hk hr
      cases h
      rw [List.mapM_cons]
      simp only [Sem.run_bind, run_sz hk, Result.andThen_ok, Sem.run_pure, run_places hr]
    · cases h
def buildC (P : Program) (t : TypeId) : Option (List Value × (Nat → Option (Nat × Nat))) := match zeroC P t, P.underlying t with
  | some zs, some (.struct fs) => match placesC P fs.toList with
    | some pl => some (zs, fun i => pl[i]?)
    | none => none
  | some zs, some (.array _ el) => match tS P el with
    | some k => some (zs, fun i => some (i * k, k))
    | none => none
  | _, _ => none
theorem LocalO.build (hF : WideLike F) {t rt : TypeId} {zs : List Value} {place : Nat → Option (Nat × Nat)} {ps : List (Nat × Operand)} {r : List (Nat × List C)} {ks : List Key} {out : List C} {d : Option Tmp} {pos : String} {af : Array Edge} {g : Option (Nat × Bool)} (hN : dOk c.N d = true)
    (hb : buildC c.P t = some (zs, place)) (hp : Parts σ ps r ks) (hf : fillC place (zs.map C.v) r = some out) : LocalO c F nn ⟨d, .build t ps.toArray, rt, pos, af, g⟩ σ ⟨kr ks, putW d (.a out)⟩ := by
  refine LocalO.val hF hN (noDefer rfl) fun s e a w hag hR => ?_
  have hag' : ∀ q ∈ ks, s q = σ q := fun q hq => hag q (kr_iff.2 hq)
  unfold buildC at hb
  split at hb
  · rename_i zs' fs hz hu
    split at hb
    · rename_i pl hpl
      cases hb
      obtain ⟨z, z1, z2, z3⟩ := run_zero (w := w) hz
      obtain ⟨ws, g1, g2, g3⟩ := hp.sound hag' hR hf (OkL.plain zs z3) (fun n hn => by rw [plain_names] at hn; cases hn)
      refine ⟨.agg ws.toArray, ?_, ⟨ws, rfl, g2⟩, g3⟩
      have hpm : (fs.mapM (m := Sem) fun f => do pure (f.offset, ← sizeOf f.type)).run c.P w = .ok pl.toArray w := by
        rw [Array.mapM_eq_mapM_toList]
        have := run_places (w := w) hpl
        rw [show (List.toArray <$> List.mapM (m := Sem) (fun f : Field => do pure (f.offset, ← sizeOf f.type)) fs.toList : Sem (Array (Nat × Nat))) = (do let r ← List.mapM (m := Sem) (fun f : Field => do pure (f.offset, ← sizeOf f.type)) fs.toList; pure r.toArray) from rfl]
        rw [Sem.run_bind, this]; rfl
      simp only [execOp, Instr.build, Sem.run_bind, z1, Result.andThen_ok, run_underlying hu w, hpm, z2]
      have e3 : (fun x : Nat => pl.toArray[x]?) = fun i : Nat => pl[i]? := by funext x; simp
      rw [e3, List.map_toArray, g1]; rfl
    · cases hb
  · rename_i zs' len el hz hu
    split at hb
    · rename_i k hk
      cases hb
      obtain ⟨z, z1, z2, z3⟩ := run_zero (w := w) hz
      obtain ⟨ws, g1, g2, g3⟩ := hp.sound hag' hR hf (OkL.plain zs z3) (fun n hn => by rw [plain_names] at hn; cases hn)
      refine ⟨.agg ws.toArray, ?_, ⟨ws, rfl, g2⟩, g3⟩
      simp only [execOp, Instr.build, Sem.run_bind, z1, Result.andThen_ok, run_underlying hu w, run_sz hk, z2, List.map_toArray]
      rw [g1]; rfl
    · cases hb
  · cases hb
def sliceC (zs : List Value) (z : Nat) : List Value := (List.range z).map fun i => zs.getD (i % zs.length) undef
/-- n times. -/
def timesL (zs : List Value) : Nat → List Value
  | 0 => []
  | n + 1 => zs ++ timesL zs n
theorem timesL_length (zs : List Value) : ∀ n, (timesL zs n).length = n * zs.length
  | 0 => by simp [timesL]
  | n + 1 => by rw [timesL, List.length_append, timesL_length zs n, Nat.add_mul]; omega
theorem timesL_get (zs : List Value) (h : 0 < zs.length) : ∀ n i, i < n * zs.length → (timesL zs n)[i]? = zs[i % zs.length]?
  | 0, i, hi => by simp at hi
  | n + 1, i, hi => by
    rw [timesL]
    by_cases hl : i < zs.length
    · rw [List.getElem?_append_left hl, Nat.mod_eq_of_lt hl]
    · rw [List.getElem?_append_right (by omega), timesL_get zs h n (i - zs.length) (by rw [Nat.add_mul] at hi; omega), ← Nat.mod_eq_sub_mod (by omega)]
theorem timesL_one {zs : List Value} (h : zs.all (·.oneCell') = true) : ∀ n, (timesL zs n).all (·.oneCell') = true
  | 0 => rfl
  | n + 1 => by rw [timesL, List.all_append, h, timesL_one h n]; rfl
theorem zeros_eq {z : Array Value} {n k : Nat} (hk : n = k * z.size) (h0 : n ≠ 0 → z.size ≠ 0) : ((Array.range n).map (z[· % z.size]!)) = (timesL z.toList k).toArray := by
  by_cases hn : n = 0
  · subst hn
    have : (timesL z.toList k) = [] := List.eq_nil_of_length_eq_zero (by rw [timesL_length]; simpa using hk.symm)
    rw [this]; simp
  · have hz := h0 hn
    apply Array.ext
    · simp [timesL_length, hk]
    · intro i h1 h2
      simp at h1
      have hi : i < k * z.toList.length := by simpa [← hk] using h1
      have h3 := timesL_get z.toList (by simpa using Nat.pos_of_ne_zero hz) k i hi
      have hm : i % z.size < z.size := Nat.mod_lt _ (Nat.pos_of_ne_zero hz)
      have h4 : (timesL z.toList k)[i]? = some z[i % z.size] := by
        rw [h3]; simp [hm]
      have h5 : (timesL z.toList k)[i]'(by simpa using h2) = z[i % z.size] := by
        have := List.getElem?_eq_getElem (l := timesL z.toList k) (i := i) (by simpa using h2)
        rw [this] at h4; exact Option.some.inj h4
      simp [h5, getElem!_pos z (i % z.size) hm]
theorem map_range0 (f : Nat → Value) : (Array.range 0).map f = #[] := by simp
theorem LocalO.buildSlice (hF : WideLike F) {n len k : Nat} {t el rt : TypeId} {zs : List Value} {ps : List (Nat × Operand)} {r : List (Nat × List C)} {ks : List Key} {out : List C} {d : Option Tmp} {pos : String} {af : Array Edge} {g : Option (Nat × Bool)} (hN : dOk c.N d = true)
    (ht : c.P.underlying t = some (.slice el)) (hz : zeroC c.P el = some zs) (hk : tS c.P el = some k) (hzk : zs.length = k) (h0 : k ≠ 0) (hle : len * k ≤ 16777216) (hp : Parts σ ps r ks) (hf : fillC (fun i => some (i * k, k)) ((timesL zs len).map C.v) r = some out) (hm : ¬ c.gv n) (hn : σ (.l n) = none) :
    LocalO c F nn ⟨d, .buildSlice t len ps.toArray, rt, pos, af, g⟩ σ ⟨kr (.l n :: ks), putW d (.c (.s n 0 len len)) ++ wsNew n (.m true out)⟩ := by
  refine LocalO.act hF hN (noDefer rfl) fun s e a w hag hR => ?_
  have hag' : ∀ q ∈ Key.l n :: ks, s q = σ q := fun q hq => hag q (kr_iff.2 hq)
  have hn' : s (.l n) = none := by rw [hag' _ (by simp)]; exact hn
  obtain ⟨z, z1, z2, z3⟩ := run_zero (w := w) hz
  obtain ⟨ws, g1, g2, g3⟩ := hp.sound (fun q hq => hag' q (by simp [hq])) hR hf (OkL.plain _ (timesL_one z3 len)) (fun n hn => by rw [plain_names] at hn; cases hn)
  have hzs : z.cells.size = k := by rw [z2]; simpa using hzk
  refine ⟨.slice (some ⟨w.heap.size, 0, none⟩) len len, _, _, ?_, hR.row hm hn' g2 g3 el, fun _ => .inl ?_, new_names rfl⟩
  · have e1 : (Array.range (len * k)).map (z.cells[· % z.cells.size]!) = (timesL zs len).toArray := by
      rw [zeros_eq (k := len) (by rw [hzs]) (fun _ => by rw [hzs]; exact h0), z2]
    have hle' : ¬ (len * k > 2 ^ 24) := by omega
    simp only [execOp, Instr.buildSlice, Sem.run_bind, run_underlying ht w, Result.andThen_ok, run_sz hk, if_neg hle', Sem.run_pure]
    by_cases hl : len * k = 0
    · have h9 : (timesL zs len) = [] := List.eq_nil_of_length_eq_zero (by rw [timesL_length, hzk]; exact hl)
      rw [h9] at g1
      rw [if_pos hl, hl]
      simp only [Sem.run_bind, Sem.run_pure, Result.andThen_ok, map_range0, List.map_toArray]
      rw [show (#[] : Array Value) = [].toArray from rfl, g1]; rfl
    · rw [if_neg hl]
      simp only [Sem.run_bind, z1, Sem.run_pure, Result.andThen_ok, e1, List.map_toArray]
      rw [g1]; rfl
  · simp [Env.set_id, Env.set_bs]
theorem LocalO.makeSlice (hF : WideLike F) {n k by' : Nat} {li ci : Int} {ki kj : IntKind} {t el rt : TypeId} {zs : List Value} {x y : Operand} {d : Option Tmp} {pos : String} {af : Array Edge} {g : Option (Nat × Bool)} (hN : dOk c.N d = true) (hx : opv σ x = some (.c (.v (.int ki li)))) (hy : opv σ y = some (.c (.v (.int kj ci))))
    (ht : c.P.underlying t = some (.slice el)) (hz : zeroC c.P el = some zs) (hk : tS c.P el = some k) (hzk : zs.length = k) (h0 : k ≠ 0) (hby : (c.P.info? el).map (·.bytes) = some by') (h1 : 0 ≤ li ∧ li ≤ ci ∧ ci ≤ 281474976710656 ∧ by' * ci ≤ 281474976710656) (hm : ¬ c.gv n) (hn : σ (.l n) = none) :
    LocalO c F nn ⟨d, .makeSlice t x y, rt, pos, af, g⟩ σ ⟨kr (.l n :: (opk x ++ opk y)), putW d (.c (.s n 0 li.toNat ci.toNat)) ++ wsNew n (.w true (timesL zs ci.toNat))⟩ := by
  refine LocalO.act hF hN (noDefer rfl) fun s e a w hag hR => ?_
  have hag' : ∀ q ∈ Key.l n :: (opk x ++ opk y), s q = σ q := fun q hq => hag q (kr_iff.2 hq)
  have hn' : s (.l n) = none := by rw [hag' _ (by simp)]; exact hn
  obtain ⟨z, z1, z2, z3⟩ := run_zero (w := w) hz
  have hzs : z.cells.size = k := by rw [z2]; simpa using hzk
  cases hq : c.P.info? el with
  | none => rw [hq] at hby; cases hby
  | some i =>
    rw [hq] at hby
    simp only [Option.map_some, Option.some.injEq] at hby
    have hti : (typeInfo el).run c.P w = .ok i w := by simp [typeInfo, hq]
    have ex := ev1v hx hag' (fun q h => by simp [h]) hR
    have ey := ev1v hy hag' (fun q h => by simp [h]) hR
    have w1 : IntKind.i64.wrap li = li := by
      have := IntWalk.i64_in li (by omega); exact this
    have w2 : IntKind.i64.wrap ci = ci := by
      have := IntWalk.i64_in ci (by omega); exact this
    refine ⟨.slice (some ⟨w.heap.size, 0, none⟩) li.toNat ci.toNat, _, _, ?_, hR.rowW (us := timesL zs ci.toNat) hm hn' (timesL_one z3 _) el, fun _ => .inl ?_, new_names rfl⟩
    · have hbig : ¬ ((decide (ci < 0) || decide ((i.bytes : Int) * ci > 2 ^ 48) || decide (li < 0) || decide (li > ci)) = true) := by
        rw [hby]; simp; omega
      have hroom : ((askRoom (ci.toNat * i.bytes)).run c.P w) = .ok () w := by
        unfold askRoom; split <;> rfl
      simp only [execOp, Instr.makeSlice, ex, ey, asInt, asIntOf, Sem.run_bind, run_underlying ht w, Result.andThen_ok, Sem.run_pure, hti, w1, w2, if_neg hbig, hroom, run_sz hk]
      by_cases hl : ci.toNat * k = 0
      · have h9 : (timesL zs ci.toNat) = [] := List.eq_nil_of_length_eq_zero (by rw [timesL_length, hzk]; exact hl)
        rw [if_pos hl, hl, h9]
        simp only [Sem.run_bind, Sem.run_pure, Result.andThen_ok, map_range0]
        rfl
      · rw [if_neg hl]
        have e1 : (Array.range (ci.toNat * k)).map (z.cells[· % z.cells.size]!) = (timesL zs ci.toNat).toArray := by
          rw [zeros_eq (k := ci.toNat) (by rw [hzs]) (fun _ => by rw [hzs]; exact h0), z2]
        simp only [Sem.run_bind, z1, Sem.run_pure, Result.andThen_ok, e1]
        rfl
    · simp [Env.set_id, Env.set_bs]
end
end Go.Proofs.Ytbjogekhedglgaa.EV
