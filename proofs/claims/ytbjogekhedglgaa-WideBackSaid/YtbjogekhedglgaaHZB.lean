/- States by names: append. No program in sight. States by names: append, second part. No program in sight. States by names: append, copy, make, literals, texts as operations. No program in sight. States by names: literals, make, copy. No program in sight. States by names: copy. No program in sight. States by names: code, results, what a function comes to. No program in sight. States by names: calls. No program in sight. States by names: calls in the order of the text, rounds, ranges over functions. No program in sight. States by names: rounds, ranges over functions. No program in sight. A reckoner of operations over named blocks. No program in sight. States by names: a call as an operation among others. No program in sight. The reckoner is sound: what it says an operation yields, it yields. No program in sight. A reckoner of operations that lay or change blocks, and that it is sound. No program in sight. -/
import Derived.Test.YtbjogekhedglgaaHZA
import Derived.Lib.ConvBytes
import Derived.Laws.BytesString
import Derived.IntWalk
import Derived.LoopNIn
import Derived.RangeFuncLeaves
import Derived.RangeFuncRecord
import Derived.RangeFuncNested
namespace Go.Proofs.Ytbjogekhedglgaa.EV
open Go.RowKit
section
variable {c : Ctx} {F : Fence} {nn : Nat} {σ s : Sf} {e : Env} {a : Act} {w : World}
/-- What is appended: k places, of z cells each. -/
def SrcOk (c : Ctx) (σ : Sf) (x : Operand) (k z : Nat) (vs : List C) (ks : List Key) : Prop :=
  ∀ s e a w, (∀ q ∈ ks, s q = σ q) → Real c s e a w → ∃ us : List Value, us.length = k * z ∧ OkL s e vs us ∧ (∀ n ∈ vs.flatMap C.names, s (.l n) ≠ none) ∧
    ∀ w', w'.heap = w.heap → (Builtin.lenOf (a.eval x)).run c.P w' = .ok k w' ∧ (Builtin.firstCells z k (a.eval x)).run c.P w' = .ok us.toArray w'
theorem first_zero {P : Program} {z : Nat} {p : Option Addr} {cap : Nat} {w : World} : (Builtin.firstCells z 0 (.slice p 0 cap)).run P w = .ok #[] w := by
  cases p with
  | none => simp [Builtin.firstCells]
  | some p => simp [Builtin.firstCells, loadCells, loadCellsFrom]
theorem first_some {P : Program} {z k : Nat} {b o cap : Nat} {us : List Value} {w w' : World} (hw : w'.heap = w.heap) (hl : us.length = k * z) (h : w.rangeAt b o us) : (Builtin.firstCells z k (.slice (some ⟨b, o, none⟩) k cap)).run P w' = .ok us.toArray w' :=
  run_firstCells_some (P := P) w' z k ⟨b, o, none⟩ k cap us hl (fun j v hv => by
    rw [Addr.add_mid]
    have := h j v hv
    simpa [World.cell?, hw] using this)
theorem src_s {x : Operand} {n o k cap z : Nat} {b : B} {own : Bool} {l : List C} (hx : opv σ x = some (.c (.s n o k cap))) (ha : σ (.l n) = some (.l true)) (hb : σ (.b n) = some (.b b)) (hl : b.cellsC = some (own, l)) (hle : o + k * z ≤ l.length) : SrcOk c σ x k z ((l.drop o).take (k * z)) (.l n :: .b n :: opk x) := by
  intro s e a w hag hR
  have ex := ev1r hx hag (fun q h => by simp [h]) hR rfl ha (by simp)
  have hb' : s (.b n) = some (.b b) := by rw [hag _ (by simp)]; exact hb
  have hM := hR.W.cells (n := n) (by rw [hag _ (by simp)]; exact ha) hb' hl
  obtain ⟨us, h1, h2, h3⟩ := hM.range o (k * z) hle
  refine ⟨us, h1, h2, fun m hm => hR.W.cl.1 (.b n) (.b b) hb' m ?_, fun w' hw => ?_⟩
  · show m ∈ b.names
    rw [← B.cellsC_names hl]
    simp only [List.mem_flatMap] at hm ⊢
    obtain ⟨y, hy, hm⟩ := hm
    exact ⟨y, List.mem_of_mem_drop (List.mem_of_mem_take hy), hm⟩
  · rcases ex with ex | ⟨rfl, rfl, p, ex⟩
    · exact ⟨by rw [ex]; rfl, by rw [ex]; exact first_some hw h1 h3⟩
    · have : us = [] := List.eq_nil_of_length_eq_zero (by rw [h1]; simp)
      exact ⟨by rw [ex]; rfl, by rw [ex, this]; exact first_zero⟩
def u8V (b : UInt8) : Value := .int .u8 b.toNat
end
end Go.Proofs.Ytbjogekhedglgaa.EV
namespace Go.Proofs.Ytbjogekhedglgaa.EV
open Go.RowKit
section
variable {c : Ctx} {F : Fence} {nn : Nat} {σ s : Sf} {e : Env} {a : Act} {w : World}
theorem cellsC_ok {n : Nat} {b : B} {own : Bool} {l : List C} (hl : b.cellsC = some (own, l)) (h : MOk s e w n own l) : BOk s e w n b := by
  cases b with
  | m o l' => cases hl; exact h
  | w o l' => simp only [B.cellsC, Option.some.injEq, Prod.mk.injEq] at hl; obtain ⟨rfl, rfl⟩ := hl; exact h
  | _ => cases hl
theorem cellsC_own {b : B} {own : Bool} {l : List C} (hl : b.cellsC = some (own, l)) : b.own = own ∧ b ≠ .df := by
  cases b with
  | m o l' => cases hl; exact ⟨rfl, by simp⟩
  | w o l' => cases hl; exact ⟨rfl, by simp⟩
  | _ => cases hl
end
end Go.Proofs.Ytbjogekhedglgaa.EV
namespace Go.Proofs.Ytbjogekhedglgaa.EV
open Go.RowKit
section
variable {c : Ctx} {F : Fence} {nn : Nat} {σ s : Sf} {e : Env} {a : Act} {w : World}
theorem new_names {m : Nat} {b : B} {x : C} (hx : x.names = [m]) : ∀ n ∈ (V.c x).names, upd s (wsNew m b) (.l n) ≠ none := fun n hn => by
  simp only [V.names, hx, List.mem_singleton] at hn; subst hn; exact new_alive
theorem foldl_push : ∀ (bs : List UInt8) (r : ByteArray), (bs.map fun b => ((b.toNat : Nat) : Int)).foldl (fun r n => r.push (UInt8.ofNat n.toNat)) r = ⟨(r.data.toList ++ bs).toArray⟩
  | [], r => by simp
  | b :: bs, r => by
    rw [List.map_cons, List.foldl_cons, foldl_push bs]
    simp [ByteArray.push]
theorem run_bytes {P : Program} {b o len cap : Nat} {bs : List UInt8} (hl : bs.length = len) (h : w.rangeAt b o (bs.map u8V)) : (Conv.bytesToString (.slice (some ⟨b, o, none⟩) len cap)).run P w = .ok (.string ⟨bs.toArray⟩) w := by
  have hl' : (loadCells ⟨b, o, none⟩ len).run P w = .ok (bs.map u8V).toArray w := by
    rw [← hl, show bs.length = (bs.map u8V).length by simp]
    exact run_loadCells_list (P := P) w ⟨b, o, none⟩ (bs.map u8V) (fun j v hv => by rw [Addr.add_mid]; exact h j v hv)
  rw [run_bytesToString w ⟨b, o, none⟩ len cap (bs.map fun b => ((b.toNat : Nat) : Int)) (by rw [hl', List.map_map]; rfl), foldl_push]
  simp [ByteArray.empty, ByteArray.emptyWithCapacity]
  try rfl
theorem run_bytes0 {P : Program} {p : Option Addr} {cap : Nat} : (Conv.bytesToString (.slice p 0 cap)).run P w = .ok (.string ⟨#[]⟩) w := by
  cases p with
  | none => rfl
  | some p =>
    obtain ⟨b, o, sp⟩ := p
    have hl' : (loadCells ⟨b, o, sp⟩ 0).run P w = .ok ([] : List Value).toArray w := rfl
    rw [run_bytesToString w ⟨b, o, sp⟩ 0 cap [] (by simpa using hl')]; rfl
theorem run_conv {P : Program} {src dst el : TypeId} {p : Option Addr} {l k : Nat} {Z : Value} (hs : P.underlying src = some (.slice el)) (he : P.underlying el = some (.int .u8)) (hd : P.underlying dst = some .string) (h : (Conv.bytesToString (.slice p l k)).run P w = .ok Z w) : (convert src dst (.slice p l k)).run P w = .ok Z w := by
  rw [run_convert_bytes_string w src dst el p l k hs he hd]; exact h
theorem bytes_src {x : Operand} {n o len : Nat} {b : B} {own : Bool} {l : List C} {bs : List UInt8} {y : C} (hx : opv σ x = some (.c y)) (hy : (∃ cap, y = .s n o len cap) ∨ ∃ lb z, y = .g n o len lb z) (ha : σ (.l n) = some (.l true)) (hb : σ (.b n) = some (.b b)) (hl : b.cellsC = some (own, l)) (hle : o + len ≤ l.length)
    (hbs : (l.drop o).take len = (bs.map u8V).map C.v) {ks : List Key} (hag : ∀ q ∈ ks, s q = σ q) (hk1 : Key.l n ∈ ks) (hk2 : Key.b n ∈ ks) (hsub : ∀ q ∈ opk x, q ∈ ks) (hR : Real c s e a w) :
    ∃ p k, a.eval x = .slice p len k ∧ (Conv.bytesToString (.slice p len k)).run c.P w = .ok (.string ⟨bs.toArray⟩) w := by
  have ex := ev1r hx hag hsub hR (by rcases hy with ⟨_, rfl⟩ | ⟨_, _, rfl⟩ <;> rfl) ha hk1
  have hM := hR.W.cells (n := n) (by rw [hag _ hk1]; exact ha) (by rw [hag _ hk2]; exact hb) hl
  obtain ⟨us, h1, h2, h3⟩ := hM.range o len hle
  rw [hbs] at h2
  have hus := h2.eq
  rw [hus] at h1 h3
  have hlen : bs.length = len := by simpa using h1
  have zero : len = 0 → bs = [] := fun h => List.eq_nil_of_length_eq_zero (by omega)
  rcases hy with ⟨cap, rfl⟩ | ⟨lb, z, rfl⟩
  · rcases ex with ex | ⟨h0, h0', p, ex⟩
    · exact ⟨_, _, ex, run_bytes hlen h3⟩
    · exact ⟨p, 0, by rw [h0]; exact ex, by rw [h0, zero h0]; exact run_bytes0⟩
  · rcases ex with ⟨k, ex, _⟩ | ⟨h0, h0', p, ex⟩
    · exact ⟨_, _, ex, run_bytes hlen h3⟩
    · exact ⟨p, 0, by rw [h0]; exact ex, by rw [h0, zero h0]; exact run_bytes0⟩
theorem LocalO.text (hF : WideLike F) {n o len : Nat} {x : Operand} {y : C} {src dst el rt : TypeId} {b : B} {own : Bool} {l : List C} {bs : List UInt8} {d : Option Tmp} {pos : String} {af : Array Edge} {g : Option (Nat × Bool)} (hN : dOk c.N d = true)
    (hx : opv σ x = some (.c y)) (hy : (∃ cap, y = .s n o len cap) ∨ ∃ lb z, y = .g n o len lb z) (ha : σ (.l n) = some (.l true)) (hb : σ (.b n) = some (.b b)) (hl : b.cellsC = some (own, l)) (hle : o + len ≤ l.length) (hbs : (l.drop o).take len = (bs.map u8V).map C.v)
    (h1 : c.P.underlying src = some (.slice el)) (h2 : c.P.underlying el = some (.int .u8)) (h3 : c.P.underlying dst = some .string) :
    LocalO c F nn ⟨d, .convert src dst x, rt, pos, af, g⟩ σ ⟨kr (.l n :: .b n :: opk x), putW d (.c (.v (.string ⟨bs.toArray⟩)))⟩ := by
  refine LocalO.val hF hN (noDefer rfl) fun s e a w hag hR => ?_
  obtain ⟨p, k, e1, e2⟩ := bytes_src hx hy ha hb hl hle hbs (fun q hq => hag q (kr_iff.2 hq)) (by simp) (by simp) (fun q h => by simp [h]) hR
  refine ⟨_, ?_, Ok.of, fun m hm => by cases hm⟩
  simp only [execOp, e1]
  rw [Sem.run_bind, run_conv h1 h2 h3 e2]; rfl
theorem bytesWorld_alloc (w : World) (el : TypeId) (b : ByteArray) : Lib.bytesWorld w el b = w.drew.alloc (.cells (Lib.bytesCells w el b) el ((Lib.bytesCells w el b).size, (Lib.bytesCells w el b).size + 1)) := by
  have hh : (Lib.bytesWorld w el b).heap = (w.drew.alloc (.cells (Lib.bytesCells w el b) el ((Lib.bytesCells w el b).size, (Lib.bytesCells w el b).size + 1))).heap := by
    apply Array.ext
    · rw [Lib.bytesWorld_size, World.size_alloc]; rfl
    · intro i h1 h2
      have e1 : ∀ j, (Lib.bytesWorld w el b).heap[j]? = (w.drew.alloc (.cells (Lib.bytesCells w el b) el ((Lib.bytesCells w el b).size, (Lib.bytesCells w el b).size + 1))).heap[j]? := fun j => by
        by_cases hj : j < w.heap.size
        · rw [Lib.bytesWorld_at_old w el b j hj, Below.heap_alloc w.drew _ j hj]; rfl
        · by_cases hj2 : j = w.heap.size
          · subst hj2
            rw [Lib.bytesWorld_at_new]
            exact (World.alloc_heap_new w.drew _).symm
          · rw [Array.getElem?_eq_none (by rw [Lib.bytesWorld_size]; omega), Array.getElem?_eq_none (by rw [World.size_alloc]; show w.heap.size + 1 ≤ j; omega)]
      have := e1 i
      rw [Array.getElem?_eq_getElem h1, Array.getElem?_eq_getElem h2] at this
      exact Option.some.inj this
  have hf : (Lib.bytesWorld w el b) = { (Lib.bytesWorld w el b) with heap := (w.drew.alloc (.cells (Lib.bytesCells w el b) el ((Lib.bytesCells w el b).size, (Lib.bytesCells w el b).size + 1))).heap } := by rw [← hh]
  rw [hf]
  rfl
theorem LocalO.bytes (hF : WideLike F) {m k : Nat} {x : Operand} {b : ByteArray} {bs : List UInt8} {u : TypeDesc} {src dst el rt : TypeId} {d : Option Tmp} {pos : String} {af : Array Edge} {g : Option (Nat × Bool)} (hN : dOk c.N d = true) (hx : opv σ x = some (.c (.v (.string b)))) (hbs : b.data.toList = bs) (hk : bs.length = k) (hle : k ≤ 140737488355328) (hm : ¬ c.gv m) (hn : σ (.l m) = none)
    (h1 : c.P.underlying src = some u) (h2 : c.P.underlying dst = some (.slice el)) (h3 : c.P.underlying el = some (.int .u8)) :
    LocalO c F nn ⟨d, .convert src dst x, rt, pos, af, g⟩ σ ⟨kr (.l m :: opk x), putW d (.c (.g m 0 k k 1)) ++ wsNew m (.w true (bs.map u8V))⟩ := by
  refine LocalO.act hF hN (noDefer rfl) fun s e a w hag hR => ?_
  have ex := ev1v hx (fun q hq => hag q (kr_iff.2 hq)) (fun q h => by simp [h]) hR
  have hn' : s (.l m) = none := by rw [hag _ (kr_iff.2 (by simp))]; exact hn
  have hrun := Lib.run_convert_string_bytes (P := c.P) w src dst el b h1 h2 h3
  rw [bytesWorld_alloc] at hrun
  have hsz : b.size = k := by rw [← hk, ← hbs]; simp
  have hge := grownCap_ge w b.size 0 el
  have hgl := grownCap_le_maxLen w b.size 0 el (by simp only [maxLen]; omega)
  have hcs : (Lib.bytesCells w el b).size = grownCap w b.size 0 el := by
    simp only [Lib.bytesCells, Array.size_append, Array.size_map, Array.size_replicate]
    have : b.data.size = b.size := rfl
    omega
  refine ⟨_, _, e.set m w.heap.size 0 (grownCap w b.size 0 el), by simp only [execOp, ex]; rw [Sem.run_bind, hrun]; rfl, (hR.drawn (w.drawn + 1)).new hm hn' _ _ ?_ (fun k hk => by cases hk), fun _ => .inl ⟨grownCap w b.size 0 el, ?_, by omega, by omega, hgl, by rw [Env.set_rm]; omega⟩, new_names rfl⟩
  · refine ⟨by rw [Env.set_rm]; simp; omega, .inr ⟨Lib.bytesCells w el b, el, _, by rw [Env.set_id]; exact World.alloc_heap_new w.drew _, fun _ => ?_, by rw [Env.set_bs, Env.set_rm, hcs]; omega, fun i y hy => ?_⟩⟩
    · rw [Env.set_rm, Env.set_bs]; simp only [hcs]; omega
    · rw [Env.set_bs, Nat.zero_add]
      simp only [List.map_map, List.getElem?_map, Option.map_eq_some_iff] at hy
      obtain ⟨v, hv, rfl⟩ := hy
      have hil : i < bs.length := (List.getElem?_eq_some_iff.1 hv).1
      refine ⟨u8V v, ?_, rfl, fun _ => rfl⟩
      rw [← hbs] at hv hil
      have h5 : i < b.data.size := by simpa using hil
      simp only [Lib.bytesCells, Array.getElem?_append, Array.size_map, h5, if_true, Array.getElem?_map]
      rw [Array.getElem?_toList] at hv
      rw [hv]; rfl
  · rw [Env.set_id, Env.set_bs, hsz]
end
end Go.Proofs.Ytbjogekhedglgaa.EV
namespace Go.Proofs.Ytbjogekhedglgaa.EV
open Go.RowKit
/-- The cells of the parts of a literal. -/
def fillC {α : Type} (place : Nat → Option (Nat × Nat)) : List α → List (Nat × List α) → Option (List α)
  | cells, [] => some cells
  | cells, (i, v) :: rest => match place i with
    | none => none
    | some (off, size) => if v.length = size ∧ off + v.length ≤ cells.length then fillC place (putL off v cells) rest else none
theorem fold_set (off : Nat) : ∀ (vs : List Value) (j0 : Nat) (cells : Array Value), ((vs.zipIdx j0).foldl (fun cs x => cs.setIfInBounds (off + x.2) x.1) cells).size = cells.size ∧
    ∀ i, ((vs.zipIdx j0).foldl (fun cs x => cs.setIfInBounds (off + x.2) x.1) cells)[i]? = if off + j0 ≤ i ∧ i < off + j0 + vs.length ∧ i < cells.size then vs[i - off - j0]? else cells[i]?
  | [], j0, cells => ⟨rfl, fun i => by rw [if_neg (by simp; omega)]; rfl⟩
  | v :: vs, j0, cells => by
    obtain ⟨h1, h2⟩ := fold_set off vs (j0 + 1) (cells.setIfInBounds (off + j0) v)
    rw [List.zipIdx_cons, List.foldl_cons]
    refine ⟨by rw [h1]; simp, fun i => ?_⟩
    rw [h2]
    simp only [Array.size_setIfInBounds, List.length_cons]
    by_cases hi : off + (j0 + 1) ≤ i ∧ i < off + (j0 + 1) + vs.length ∧ i < cells.size
    · rw [if_pos hi, if_pos (by omega), show i - off - j0 = i - off - (j0 + 1) + 1 by omega]; simp
    · rw [if_neg hi, Array.getElem?_setIfInBounds]
      by_cases he : off + j0 = i
      · subst he
        rw [if_pos rfl]
        by_cases hl : off + j0 < cells.size
        · rw [if_pos hl, if_pos (by omega)]; simp
        · rw [if_neg hl, if_neg (by omega)]; simp [hl]
      · rw [if_neg he, if_neg (by omega)]
theorem fold_put (off : Nat) (vs cells : List Value) (h : off + vs.length ≤ cells.length) : (vs.toArray.zipIdx.foldl (fun cs x => cs.setIfInBounds (off + x.2) x.1) cells.toArray) = (putL off vs cells).toArray := by
  obtain ⟨h1, h2⟩ := fold_set off vs 0 cells.toArray
  have e : vs.toArray.zipIdx.foldl (fun cs x => cs.setIfInBounds (off + x.2) x.1) cells.toArray = (vs.zipIdx 0).foldl (fun cs x => cs.setIfInBounds (off + x.2) x.1) cells.toArray := by
    rw [← Array.foldl_toList]; simp
  rw [e]
  apply Array.ext'
  apply List.ext_getElem?
  intro i
  have := h2 i
  rw [← Array.getElem?_toList] at this
  rw [this, putL_get off vs cells i h]
  simp only [Nat.add_zero, Nat.sub_zero, List.size_toArray]
  by_cases hi : off ≤ i ∧ i < off + vs.length
  · rw [if_pos ⟨hi.1, hi.2, by omega⟩, if_pos hi]
  · rw [if_neg (by omega), if_neg hi]; simp
section
variable {c : Ctx} {F : Fence} {nn : Nat} {σ s : Sf} {e : Env} {a : Act} {w : World}
/-- The parts of a literal. -/
inductive Parts (s : Sf) : List (Nat × Operand) → List (Nat × List C) → List Key → Prop
  | nil : Parts s [] [] []
  | cons {i : Nat} {x : Operand} {v : V} {l : List C} {k1 ks : List Key} {ps : List (Nat × Operand)} {r : List (Nat × List C)} : opv s x = some v → CV s v l k1 → Parts s ps r ks → Parts s ((i, x) :: ps) ((i, l) :: r) (k1 ++ (opk x ++ ks))
theorem OkL.put {o : Nat} {l vs : List C} {us ws : List Value} (h : OkL s e l us) (k : OkL s e vs ws) (hle : o + vs.length ≤ l.length) : OkL s e (putL o vs l) (putL o ws us) := by
  have h1 := h.length
  have h2 := k.length
  refine OkL.mk (by rw [putL_length, putL_length, h1]) fun i x hx => ?_
  rw [putL_get o vs l i hle] at hx
  rw [putL_get o ws us i (by omega), h2]
  split at hx
  · rename_i hi; rw [if_pos hi]; exact k.get hx
  · rename_i hi; rw [if_neg hi]; exact h.get hx
theorem Parts.sound {ps : List (Nat × Operand)} {r : List (Nat × List C)} {ks : List Key} (h : Parts σ ps r ks) (hag : ∀ q ∈ ks, s q = σ q) (hR : Real c s e a w) {place : Nat → Option (Nat × Nat)} {cells out : List C} (hf : fillC place cells r = some out) {us : List Value} (hu : OkL s e cells us) (hnu : ∀ n ∈ cells.flatMap C.names, s (.l n) ≠ none) :
    ∃ ws, Instr.fill place us.toArray (ps.map fun p => (p.1, a.eval p.2)) = some ws.toArray ∧ OkL s e out ws ∧ ∀ n ∈ out.flatMap C.names, s (.l n) ≠ none := by
  induction h generalizing cells us with
  | nil => simp only [fillC, Option.some.injEq] at hf; subst hf; exact ⟨us, rfl, hu, hnu⟩
  | @cons i x v l k1 ks ps r hx hl h ih =>
    obtain ⟨h1, h2⟩ := ev1 hx hag (fun q hq => by simp [hq]) hR
    obtain ⟨ws, h3, h4⟩ := hl.sound (fun q hq => hag q (by simp [hq])) h1
    simp only [fillC] at hf
    cases hp : place i with
    | none => rw [hp] at hf; cases hf
    | some q =>
      obtain ⟨off, size⟩ := q
      rw [hp] at hf
      simp only at hf
      split at hf
      · rename_i hc
        obtain ⟨hc1, hc2⟩ := hc
        obtain ⟨zs, g1, g2, g3⟩ := ih (fun q hq => hag q (by simp [hq])) hf (hu.put h4 hc2) (fun n hn => by
          simp only [List.mem_flatMap] at hn
          obtain ⟨y, hy, hn⟩ := hn
          rcases putL_mem off l cells y hy with hy | hy
          · exact h2 n (hl.names (List.mem_flatMap.2 ⟨y, hy, hn⟩))
          · exact hnu n (List.mem_flatMap.2 ⟨y, hy, hn⟩))
        refine ⟨zs, ?_, g2, g3⟩
        have hlu := hu.length
        have hlw := h4.length
        have e2 : (a.eval x).cells = ws.toArray := by rw [← h3]
        simp only [List.map_cons, Instr.fill, hp, e2]
        rw [if_neg (by simp [hlw, hc1, hlu]; omega), fold_put off ws us (by omega)]
        exact g1
      · cases hf
def placesC (P : Program) : List Field → Option (List (Nat × Nat))
  | [] => some []
  | f :: fs => match tS P f.type, placesC P fs with
    | some k, some r => some ((f.offset, k) :: r)
    | _, _ => none
theorem run_places {P : Program} : ∀ {fs : List Field} {pl : List (Nat × Nat)}, placesC P fs = some pl → (fs.mapM (m := Sem) fun f => do pure (f.offset, ← sizeOf f.type)).run P w = .ok pl w
  | [], pl, h => by simp only [placesC, Option.some.injEq] at h; subst h; rfl
  | f :: fs, pl, h => by
    simp only [placesC] at h
    split at h
    · rename_i k r hk hr
      cases h
      rw [List.mapM_cons]
      simp only [Sem.run_bind, run_sz hk, Result.andThen_ok, Sem.run_pure, run_places hr]
    · cases h
def buildC (P : Program) (t : TypeId) : Option (List Value × (Nat → Option (Nat × Nat))) := match zeroC P t, P.underlying t with
  | some zs, some (.struct fs) => match placesC P fs.toList with
    | some pl => some (zs, fun i => pl[i]?)
    | none => none
  | some zs, some (.array _ el) => match tS P el with
    | some k => some (zs, fun i => some (i * k, k))
    | none => none
  | _, _ => none
theorem LocalO.build (hF : WideLike F) {t rt : TypeId} {zs : List Value} {place : Nat → Option (Nat × Nat)} {ps : List (Nat × Operand)} {r : List (Nat × List C)} {ks : List Key} {out : List C} {d : Option Tmp} {pos : String} {af : Array Edge} {g : Option (Nat × Bool)} (hN : dOk c.N d = true)
    (hb : buildC c.P t = some (zs, place)) (hp : Parts σ ps r ks) (hf : fillC place (zs.map C.v) r = some out) : LocalO c F nn ⟨d, .build t ps.toArray, rt, pos, af, g⟩ σ ⟨kr ks, putW d (.a out)⟩ := by
  refine LocalO.val hF hN (noDefer rfl) fun s e a w hag hR => ?_
  have hag' : ∀ q ∈ ks, s q = σ q := fun q hq => hag q (kr_iff.2 hq)
  unfold buildC at hb
  split at hb
  · rename_i zs' fs hz hu
    split at hb
    · rename_i pl hpl
      cases hb
      obtain ⟨z, z1, z2, z3⟩ := run_zero (w := w) hz
      obtain ⟨ws, g1, g2, g3⟩ := hp.sound hag' hR hf (OkL.plain zs z3) (fun n hn => by rw [plain_names] at hn; cases hn)
      refine ⟨.agg ws.toArray, ?_, ⟨ws, rfl, g2⟩, g3⟩
      have hpm : (fs.mapM (m := Sem) fun f => do pure (f.offset, ← sizeOf f.type)).run c.P w = .ok pl.toArray w := by
        rw [Array.mapM_eq_mapM_toList]
        have := run_places (w := w) hpl
        rw [show (List.toArray <$> List.mapM (m := Sem) (fun f : Field => do pure (f.offset, ← sizeOf f.type)) fs.toList : Sem (Array (Nat × Nat))) = (do let r ← List.mapM (m := Sem) (fun f : Field => do pure (f.offset, ← sizeOf f.type)) fs.toList; pure r.toArray) from rfl]
        rw [Sem.run_bind, this]; rfl
      simp only [execOp, Instr.build, Sem.run_bind, z1, Result.andThen_ok, run_underlying hu w, hpm, z2]
      have e3 : (fun x : Nat => pl.toArray[x]?) = fun i : Nat => pl[i]? := by funext x; simp
      rw [e3, List.map_toArray, g1]; rfl
    · cases hb
  · rename_i zs' len el hz hu
    split at hb
    · rename_i k hk
      cases hb
      obtain ⟨z, z1, z2, z3⟩ := run_zero (w := w) hz
      obtain ⟨ws, g1, g2, g3⟩ := hp.sound hag' hR hf (OkL.plain zs z3) (fun n hn => by rw [plain_names] at hn; cases hn)
      refine ⟨.agg ws.toArray, ?_, ⟨ws, rfl, g2⟩, g3⟩
      simp only [execOp, Instr.build, Sem.run_bind, z1, Result.andThen_ok, run_underlying hu w, run_sz hk, z2, List.map_toArray]
      rw [g1]; rfl
    · cases hb
  · cases hb
/-- n times. -/
def timesL (zs : List Value) : Nat → List Value
  | 0 => []
  | n + 1 => zs ++ timesL zs n
theorem timesL_length (zs : List Value) : ∀ n, (timesL zs n).length = n * zs.length
  | 0 => by simp [timesL]
  | n + 1 => by rw [timesL, List.length_append, timesL_length zs n, Nat.add_mul]; omega
theorem timesL_get (zs : List Value) (h : 0 < zs.length) : ∀ n i, i < n * zs.length → (timesL zs n)[i]? = zs[i % zs.length]?
  | 0, i, hi => by simp at hi
  | n + 1, i, hi => by
    rw [timesL]
    by_cases hl : i < zs.length
    · rw [List.getElem?_append_left hl, Nat.mod_eq_of_lt hl]
    · rw [List.getElem?_append_right (by omega), timesL_get zs h n (i - zs.length) (by rw [Nat.add_mul] at hi; omega), ← Nat.mod_eq_sub_mod (by omega)]
theorem timesL_one {zs : List Value} (h : zs.all (·.oneCell') = true) : ∀ n, (timesL zs n).all (·.oneCell') = true
  | 0 => rfl
  | n + 1 => by rw [timesL, List.all_append, h, timesL_one h n]; rfl
theorem zeros_eq {z : Array Value} {n k : Nat} (hk : n = k * z.size) (h0 : n ≠ 0 → z.size ≠ 0) : ((Array.range n).map (z[· % z.size]!)) = (timesL z.toList k).toArray := by
  by_cases hn : n = 0
  · subst hn
    have : (timesL z.toList k) = [] := List.eq_nil_of_length_eq_zero (by rw [timesL_length]; simpa using hk.symm)
    rw [this]; simp
  · have hz := h0 hn
    apply Array.ext
    · simp [timesL_length, hk]
    · intro i h1 h2
      simp at h1
      have hi : i < k * z.toList.length := by simpa [← hk] using h1
      have h3 := timesL_get z.toList (by simpa using Nat.pos_of_ne_zero hz) k i hi
      have hm : i % z.size < z.size := Nat.mod_lt _ (Nat.pos_of_ne_zero hz)
      have h4 : (timesL z.toList k)[i]? = some z[i % z.size] := by
        rw [h3]; simp [hm]
      have h5 : (timesL z.toList k)[i]'(by simpa using h2) = z[i % z.size] := by
        have := List.getElem?_eq_getElem (l := timesL z.toList k) (i := i) (by simpa using h2)
        rw [this] at h4; exact Option.some.inj h4
      simp [h5, getElem!_pos z (i % z.size) hm]
theorem map_range0 (f : Nat → Value) : (Array.range 0).map f = #[] := by simp
theorem LocalO.buildSlice (hF : WideLike F) {n len k : Nat} {t el rt : TypeId} {zs : List Value} {ps : List (Nat × Operand)} {r : List (Nat × List C)} {ks : List Key} {out : List C} {d : Option Tmp} {pos : String} {af : Array Edge} {g : Option (Nat × Bool)} (hN : dOk c.N d = true)
    (ht : c.P.underlying t = some (.slice el)) (hz : zeroC c.P el = some zs) (hk : tS c.P el = some k) (hzk : zs.length = k) (h0 : k ≠ 0) (hle : len * k ≤ 16777216) (hp : Parts σ ps r ks) (hf : fillC (fun i => some (i * k, k)) ((timesL zs len).map C.v) r = some out) (hm : ¬ c.gv n) (hn : σ (.l n) = none) :
    LocalO c F nn ⟨d, .buildSlice t len ps.toArray, rt, pos, af, g⟩ σ ⟨kr (.l n :: ks), putW d (.c (.s n 0 len len)) ++ wsNew n (.m true out)⟩ := by
  refine LocalO.act hF hN (noDefer rfl) fun s e a w hag hR => ?_
  have hag' : ∀ q ∈ Key.l n :: ks, s q = σ q := fun q hq => hag q (kr_iff.2 hq)
  have hn' : s (.l n) = none := by rw [hag' _ (by simp)]; exact hn
  obtain ⟨z, z1, z2, z3⟩ := run_zero (w := w) hz
  obtain ⟨ws, g1, g2, g3⟩ := hp.sound (fun q hq => hag' q (by simp [hq])) hR hf (OkL.plain _ (timesL_one z3 len)) (fun n hn => by rw [plain_names] at hn; cases hn)
  have hzs : z.cells.size = k := by rw [z2]; simpa using hzk
  refine ⟨.slice (some ⟨w.heap.size, 0, none⟩) len len, _, _, ?_, hR.row hm hn' g2 g3 el, fun _ => .inl ?_, new_names rfl⟩
  · have e1 : (Array.range (len * k)).map (z.cells[· % z.cells.size]!) = (timesL zs len).toArray := by
      rw [zeros_eq (k := len) (by rw [hzs]) (fun _ => by rw [hzs]; exact h0), z2]
    have hle' : ¬ (len * k > 2 ^ 24) := by omega
    simp only [execOp, Instr.buildSlice, Sem.run_bind, run_underlying ht w, Result.andThen_ok, run_sz hk, if_neg hle', Sem.run_pure]
    by_cases hl : len * k = 0
    · have h9 : (timesL zs len) = [] := List.eq_nil_of_length_eq_zero (by rw [timesL_length, hzk]; exact hl)
      rw [h9] at g1
      rw [if_pos hl, hl]
      simp only [Sem.run_bind, Sem.run_pure, Result.andThen_ok, map_range0, List.map_toArray]
      rw [show (#[] : Array Value) = [].toArray from rfl, g1]; rfl
    · rw [if_neg hl]
      simp only [Sem.run_bind, z1, Sem.run_pure, Result.andThen_ok, e1, List.map_toArray]
      rw [g1]; rfl
  · simp [Env.set_id, Env.set_bs]
end
end Go.Proofs.Ytbjogekhedglgaa.EV
namespace Go.Proofs.Ytbjogekhedglgaa.EV
open Go.RowKit
section
variable {c : Ctx} {F : Fence} {nn : Nat} {σ s : Sf} {e : Env} {a : Act} {w w' : World} {Q : Exit → Act → World → Prop}
theorem CW_seq {x y : Code} (h : CW c F nn x (Exit.then (y.wpIn F nn c.P Q) Q) σ) : CW c F nn (.seq x y) Q σ := ⟨fun e a w hR => wpIn_seq (h.go e a w hR)⟩
theorem CW_skip (h : KW c (Q .normal) σ) : CW c F nn .skip Q σ := ⟨fun e a w hR => wpIn_skip (h.go e a w hR)⟩
theorem CW_ret (h : KW c (Q .ret) σ) : CW c F nn .ret Q σ := ⟨fun e a w hR => wpIn_ret (h.go e a w hR)⟩
theorem CW_exit {k : Nat} (h : KW c (Q (.exit k)) σ) : CW c F nn (.exit k) Q σ := ⟨fun e a w hR => wpIn_exit (h.go e a w hR)⟩
theorem CW_block {k : Nat} {x : Code} (h : CW c F nn x (Exit.inBlock k Q) σ) : CW c F nn (.block k x) Q σ := ⟨fun e a w hR => wpIn_block (h.go e a w hR)⟩
theorem CW_yes {x : Operand} {p q : Code} (hx : opv σ x = some (.c (.v (.bool true)))) (h : CW c F nn p Q σ) : CW c F nn (.cond x p q) Q σ := ⟨fun e a w hR => wpIn_cond_true (Ok.plain (eval_opv hx hR)) (h.go e a w hR)⟩
theorem CW_no {x : Operand} {p q : Code} (hx : opv σ x = some (.c (.v (.bool false)))) (h : CW c F nn q Q σ) : CW c F nn (.cond x p q) Q σ := ⟨fun e a w hR => wpIn_cond_false (Ok.plain (eval_opv hx hR)) (h.go e a w hR)⟩
theorem CW_cond {x : Operand} {p q : Code} {b : Bool} (hx : opv σ x = some (.c (.v (.bool b)))) (h1 : b = true → CW c F nn p Q σ) (h2 : b = false → CW c F nn q Q σ) : CW c F nn (.cond x p q) Q σ := by
  cases b with
  | true => exact CW_yes hx (h1 rfl)
  | false => exact CW_no hx (h2 rfl)
theorem CW_rounds {x : Code} (m : Nat) (h : KW c (Code.roundsIn F nn c.P x Q m) σ) : CW c F nn (.loop x) Q σ := ⟨fun e a w hR => wpIn_loop_rounds m (h.go e a w hR)⟩
theorem KW_round {x : Code} {m : Nat} (h : CW c F nn x (Exit.then (Code.roundsIn F nn c.P x Q m) Q) σ) : KW c (Code.roundsIn F nn c.P x Q (m + 1)) σ := ⟨h.go⟩
/-- What an own block holds is lost. -/
theorem RealW.drop (h : RealW c s e w) {n : Nat} {b : B} (ha : s (.l n) = some (.l true)) (hb : s (.b n) = some (.b b)) (ho : b.own = true) (hr : e.rm n ≠ 0) (hw : ∀ k, k ≠ e.id n → w'.heap[k]? = w.heap[k]?) (hsz : w.heap.size ≤ w'.heap.size)
    (hos : w'.os = w.os) (htape : w'.tape = w.tape) (hout : w'.output = w.output) : RealW c (upd s [(.l n, .l false)]) e w' := by
  have hk := h.kill (n := n)
  have hown := h.own n b ha hb ho
  have hlv : ∀ k, upd s [(.l n, .l false)] (.l k) = some (.l true) → s (.l k) = some (.l true) ∧ n ≠ k := fun k hx => by
    rw [upd_cons, upd_nil] at hx
    split at hx
    · cases hx
    · rename_i hne; exact ⟨hx, by simpa using hne⟩
  have hbb : ∀ k, upd s [(.l n, .l false)] (.b k) = s (.b k) := fun k => by rw [upd_cons_ne _ _ _ (by simp), upd_nil]
  refine ⟨fun k b2 h1 h2 => ?_, hk.sep, hk.own, hk.cl, h.given, hos.trans h.os, htape.trans h.tape, hout.trans h.output, Nat.le_trans h.size hsz, fun k hkB ht => ?_⟩
  · obtain ⟨g1, g2⟩ := hlv k h1
    refine (hk.blk k b2 h1 h2).mono (fun m _ => ⟨id, .rfl⟩) .rfl (fun h0 => hw _ ?_)
    rw [hbb] at h2
    rcases h.sep n k b b2 ha hb g1 h2 g2 ho with h3 | h3 | h3
    · exact absurd h3 hr
    · exact absurd h3 h0
    · exact fun e => h3 e.symm
  · rw [hw k (fun e => by
      rcases hown with h1 | h1 | h1
      · exact hr h1
      · have : k < c.B := hkB
        omega
      · exact ht (e ▸ h1))]
    exact h.old k hkB ht
/-- One result. -/
def resC (P : Program) (s : Sf) : ResultVar → Option V
  | .tmp t => opv s (.tmp t)
  | .cell a t => match opv s (.tmp a) with
    | some (.c (.p n o)) => match s (.l n), s (.b n) with
      | some (.l true), some (.b b) => match b.cellsC with
        | some (_, l) => match tRow P t with
          | some false => match l[o]? with
            | some x => some (.c x)
            | none => none
          | some true => match tS P t with
            | some k => if o + k ≤ l.length then some (.a ((l.drop o).take k)) else none
            | none => none
          | none => none
        | none => none
      | _, _ => none
    | _ => none
def resL (P : Program) (s : Sf) : List ResultVar → Option (List V)
  | [] => some []
  | r :: rs => match resC P s r, resL P s rs with
    | some v, some vs => some (v :: vs)
    | _, _ => none
def partV : V → Option (C ⊕ List C)
  | .c x => some (.inl x)
  | .a l => some (.inr l)
  | .t _ => none
def partsV : List V → Option (List (C ⊕ List C))
  | [] => some []
  | v :: vs => match partV v, partsV vs with
    | some p, some ps => some (p :: ps)
    | _, _ => none
def tupC : List V → Option V
  | [v] => some v
  | vs => match partsV vs with
    | some ps => some (.t ps)
    | none => none
def resOne (tmps : Array Value) : ResultVar → Sem Value
  | .tmp t => pure (tmps.getD t undef)
  | .cell a t => do loadVar t (← asAddr (tmps.getD a undef))
theorem results_eq {fn : Func} {tmps : Array Value} : results fn tmps = (do let vs ← fn.results.mapM (resOne tmps); pure (if h : vs.size = 1 then vs[0] else .tuple vs)) := by
  unfold results
  congr 2
/-- The slots, without what is owed of deferred calls. -/
structure Slots (c : Ctx) (s : Sf) (e : Env) (tmps : Array Value) : Prop where
  tmp : ∀ i v, s (.t i) = some (.v v) → ∃ u, tmps[i]? = some u ∧ OkV s e v u
theorem resC_ok {r : ResultVar} {v : V} (h : resC c.P s r = some v) {tmps : Array Value} (hS : Slots c s e tmps) (hW : RealW c s e w) : ∃ u, (resOne tmps r).run c.P w = .ok u w ∧ OkV s e v u ∧ ∀ n ∈ v.names, s (.l n) ≠ none := by
  have slot : ∀ {i v}, opv s (.tmp i) = some v → OkV s e v (tmps.getD i undef) ∧ ∀ n ∈ v.names, s (.l n) ≠ none := fun {i v} hx => by
    refine ⟨?_, opv_names hx hW.cl⟩
    simp only [opv] at hx
    split at hx
    · rename_i u hu
      cases hx
      obtain ⟨u, h1, h2⟩ := hS.tmp i _ hu
      simpa [Array.getD_eq_getD_getElem?, h1] using h2
    · cases hx
  cases r with
  | tmp t => exact ⟨_, rfl, (slot h).1, (slot h).2⟩
  | cell a t =>
    simp only [resC] at h
    split at h
    · rename_i n o hx
      split at h
      · rename_i b ha hb
        split at h
        · rename_i own l hl
          have ex : tmps.getD a undef = .pointer (some ⟨e.id n, e.bs n + o, none⟩) := (slot hx).1 fun m hm => by
            simp only [C.names, List.mem_singleton] at hm; subst hm; exact ha
          have hM := hW.cells ha hb hl
          have hnm : ∀ x ∈ l, ∀ m ∈ x.names, s (.l m) ≠ none := fun x hx m hm => by
            refine hW.cl.1 (.b n) (.b b) hb m ?_
            show m ∈ b.names
            rw [← B.cellsC_names hl]
            exact List.mem_flatMap.2 ⟨x, hx, hm⟩
          cases hr : tRow c.P t with
          | none => rw [hr] at h; cases h
          | some row =>
            rw [hr] at h
            cases row with
            | false =>
              simp only at h
              split at h
              · rename_i x hx2
                cases h
                obtain ⟨u, h1, h2⟩ := hM.cell hx2
                refine ⟨u, ?_, h2.ok, fun m hm => hnm x (List.mem_of_getElem? hx2) m hm⟩
                simp only [resOne, ex, asAddr, Sem.run_bind, Sem.run_pure, Result.andThen_ok, loadVar, run_row hr]
                simp [run_load, h1]
              · cases h
            | true =>
              simp only at h
              split at h
              · rename_i k hk
                split at h
                · rename_i hle
                  cases h
                  obtain ⟨us, h1, h2, h3⟩ := hM.range o k hle
                  refine ⟨.agg us.toArray, ?_, ⟨us, rfl, h2⟩, fun m hm => ?_⟩
                  · have hl' : (loadCells ⟨e.id n, e.bs n + o, none⟩ us.length).run c.P w = .ok us.toArray w :=
                      run_loadCells_list (P := c.P) w ⟨e.id n, e.bs n + o, none⟩ us (fun j v hv => by rw [Addr.add_mid]; exact h3 j v hv)
                    simp only [resOne, ex, asAddr, Sem.run_bind, Sem.run_pure, Result.andThen_ok, loadVar, run_row hr, if_true, run_sz hk, ← h1, hl']
                  · simp only [V.names, List.mem_flatMap] at hm
                    obtain ⟨y, hy, hm⟩ := hm
                    exact hnm y (List.mem_of_mem_drop (List.mem_of_mem_take hy)) m hm
                · cases h
              · cases h
        · cases h
      · cases h
    · cases h
def OkVs (s : Sf) (e : Env) : List V → List Value → Prop
  | [], us => us = []
  | v :: vs, us => ∃ u r, us = u :: r ∧ OkV s e v u ∧ OkVs s e vs r
theorem resL_ok {tmps : Array Value} (hS : Slots c s e tmps) (hW : RealW c s e w) : ∀ {rs : List ResultVar} {vs : List V}, resL c.P s rs = some vs → ∃ us : List Value, (rs.mapM (m := Sem) (resOne tmps)).run c.P w = .ok us w ∧ OkVs s e vs us ∧ ∀ v ∈ vs, ∀ n ∈ v.names, s (.l n) ≠ none
  | [], vs, h => by simp only [resL, Option.some.injEq] at h; subst h; exact ⟨[], rfl, rfl, fun v hv => by cases hv⟩
  | r :: rs, vs, h => by
    simp only [resL] at h
    split at h
    · rename_i v vs' hv hvs
      cases h
      obtain ⟨u, h1, h2, h3⟩ := resC_ok hv hS hW
      obtain ⟨us, h4, h5, h6⟩ := resL_ok hS hW hvs
      refine ⟨u :: us, ?_, ⟨u, us, rfl, h2, h5⟩, fun y hy => ?_⟩
      · rw [List.mapM_cons]; simp only [Sem.run_bind, h1, Result.andThen_ok, h4, Sem.run_pure]
      · rcases List.mem_cons.1 hy with rfl | hy
        · exact h3
        · exact h6 y hy
    · cases h
theorem OkVs.length : ∀ {vs : List V} {us : List Value}, OkVs s e vs us → us.length = vs.length
  | [], _, h => by rw [h]; rfl
  | v :: vs, _, ⟨u, r, hu, _, h⟩ => by rw [hu]; simp [h.length]
theorem partsV_ok : ∀ {vs : List V} {ps : List (C ⊕ List C)} {us : List Value}, partsV vs = some ps → OkVs s e vs us → OkT s e ps us ∧ ∀ n ∈ ps.flatMap namesP, ∃ v ∈ vs, n ∈ v.names
  | [], ps, us, h, hv => by simp only [partsV, Option.some.injEq] at h; subst h; exact ⟨hv, fun n hn => by cases hn⟩
  | v :: vs, ps, us, h, ⟨u, r, hu, h1, h2⟩ => by
    simp only [partsV] at h
    split at h
    · rename_i p ps' hp hps
      cases h
      obtain ⟨h3, h4⟩ := partsV_ok hps h2
      refine ⟨⟨u, r, hu, ?_, h3⟩, fun n hn => ?_⟩
      · cases v with
        | c x => cases hp; exact h1
        | a l => cases hp; exact h1
        | t l => cases hp
      · rw [List.flatMap_cons] at hn
        rcases List.mem_append.1 hn with hn | hn
        · refine ⟨v, List.mem_cons_self, ?_⟩
          cases v with
          | c x => cases hp; exact hn
          | a l => cases hp; exact hn
          | t l => cases hp
        · obtain ⟨y, hy, hn⟩ := h4 n hn; exact ⟨y, List.mem_cons_of_mem _ hy, hn⟩
    · cases h
theorem results_ok {fn : Func} {tmps : Array Value} {vs : List V} {v : V} (hS : Slots c s e tmps) (hW : RealW c s e w) (hr : resL c.P s fn.results.toList = some vs) (hv : tupC vs = some v) :
    ∃ u, (results fn tmps).run c.P w = .ok u w ∧ OkV s e v u ∧ ∀ n ∈ v.names, s (.l n) ≠ none := by
  obtain ⟨us, h1, h2, h3⟩ := resL_ok hS hW hr
  have hm : (fn.results.mapM (m := Sem) (resOne tmps)).run c.P w = .ok us.toArray w := by
    rw [Array.mapM_eq_mapM_toList]
    rw [show (List.toArray <$> List.mapM (m := Sem) (resOne tmps) fn.results.toList : Sem (Array Value)) = (do let r ← List.mapM (m := Sem) (resOne tmps) fn.results.toList; pure r.toArray) from rfl]
    rw [Sem.run_bind, h1]; rfl
  have hlen := h2.length
  have hrun : (results fn tmps).run c.P w = .ok (if h : us.toArray.size = 1 then us.toArray[0] else .tuple us.toArray) w := by
    rw [results_eq, Sem.run_bind, hm]; rfl
  unfold tupC at hv
  split at hv
  · rename_i v0
    cases hv
    obtain ⟨u, r, rfl, h4, h5⟩ := h2
    have : r = [] := h5
    subst this
    exact ⟨u, by rw [hrun]; simp, h4, h3 v (by simp)⟩
  · rename_i hne
    split at hv
    · rename_i ps hps
      cases hv
      obtain ⟨h4, h5⟩ := partsV_ok hps h2
      have hs : us.toArray.size ≠ 1 := fun h => by
        simp only [List.size_toArray] at h
        have : vs.length = 1 := by omega
        match vs, this with
        | [v], _ => exact hne v rfl
      refine ⟨.tuple us.toArray, by rw [hrun, dif_neg hs], ⟨us, rfl, h4⟩, fun n hn => ?_⟩
      obtain ⟨y, hy, hn⟩ := h5 n hn
      exact h3 y hy n hn
    · cases hv
/-- What a call comes to: of these arguments, where h stands, whatever else there is. -/
def CT (P : Program) (f : FuncId) (args : List V) (h : Sf) (lo hi : Nat) (v : V) (h' : Sf) : Prop :=
  ∀ (c : Ctx) (e : Env) (w : World) (us : List Value), c.P = P → (∀ n, lo ≤ n → n < hi → ¬ c.gv n) → RealW c h e w → OkVs h e args us → (∀ v ∈ args, ∀ n ∈ v.names, h (.l n) ≠ none) →
    Calls P f us.toArray w fun en w' => ∃ u e', en = .returned u ∧ RealW c h' e' w' ∧ OkV h' e' v u ∧ ∀ n ∈ v.names, h' (.l n) ≠ none
/-- The heap part of a state. -/
def hp (s : Sf) : Sf
  | .t _ => none
  | q => s q
theorem OkVs.get : ∀ {vs : List V} {us : List Value} {i : Nat} {v : V}, OkVs s e vs us → vs[i]? = some v → ∃ u, us[i]? = some u ∧ OkV s e v u
  | [], _, _, _, _, hx => by simp at hx
  | y :: l, _, 0, x, ⟨u, r, hu, h1, _⟩, hx => by
    simp only [List.getElem?_cons_zero, Option.some.injEq] at hx
    subst hx; rw [hu]; exact ⟨u, rfl, h1⟩
  | y :: l, _, i + 1, x, ⟨u, r, hu, _, h2⟩, hx => by
    rw [hu]; simpa using h2.get (i := i) (by simpa using hx)
/-- The marks are taken, then the results. -/
def killM (s : Sf) : List Nat → Sf
  | [] => s
  | n :: l => killM (upd s [(.l n, .l false)]) l
theorem killM_b : ∀ (l : List Nat) (s : Sf) (n : Nat), killM s l (.b n) = s (.b n)
  | [], s, n => rfl
  | k :: l, s, n => by rw [killM, killM_b l, upd_cons_ne _ _ _ (by simp), upd_nil]
theorem killM_t : ∀ (l : List Nat) (s : Sf) (i : Nat), killM s l (.t i) = s (.t i)
  | [], s, n => rfl
  | k :: l, s, n => by rw [killM, killM_t l, upd_cons_ne _ _ _ (by simp), upd_nil]
theorem killM_l : ∀ (l : List Nat) (s : Sf) (n : Nat), killM s l (.l n) = if n ∈ l then some (.l false) else s (.l n)
  | [], s, n => by simp [killM]
  | k :: l, s, n => by
    rw [killM, killM_l l, upd_cons, upd_nil]
    by_cases h1 : n ∈ l
    · simp [h1]
    · by_cases h2 : k = n
      · simp [h2]
      · have h3 : ¬ n = k := fun e => h2 e.symm
        simp [h1, h2, h3]
theorem leaves_marks {P : Program} {fn : Func} {tmps : Array Value} {R : Ending → World → Prop} : ∀ (l : List Nat) (s : Sf) (w : World), c.P = P → RealW c s e w → l.Nodup → (∀ n ∈ l, s (.l n) = some (.l true) ∧ s (.b n) = some (.b .df)) →
    (∀ w', RealW c (killM s l) e w' → ∃ v, (results fn tmps).run P w' = .ok v w' ∧ R (.returned v) w') → LeavesInM Fence.wide nn P fn tmps R (l.map fun n => mark1 (e.id n)) .returning w
  | [], s, w, hP, hW, _, _, hK => hK w hW
  | n :: l, s, w, hP, hW, hnd, hm, hK => by
    obtain ⟨ha, hb⟩ := hm n List.mem_cons_self
    obtain ⟨hrm, hD⟩ := hW.blk n .df ha hb
    have hlt : e.id n < w.heap.size := (Array.getElem?_eq_some_iff.1 hD).1
    rw [List.nodup_cons] at hnd
    refine ⟨by simp, .inl ⟨e.id n, _, rfl, run_takeDeferred hD, ?_⟩⟩
    refine leaves_marks l (upd s [(.l n, .l false)]) _ hP (hW.drop ha hb rfl (by omega) (fun k hk => World.putObj_heap_other hk) (by simp [World.putObj]) rfl rfl rfl) hnd.2 (fun k hk => ?_) hK
    have hne : n ≠ k := fun h => hnd.1 (h ▸ hk)
    rw [upd_cons_ne _ _ _ (by simpa using hne), upd_nil, upd_cons_ne _ _ _ (by simp), upd_nil]
    exact hm k (List.mem_cons_of_mem _ hk)
/-- Where a body ends. -/
theorem KW_leave {P : Program} {fn : Func} {R : Ending → World → Prop} {vs : List V} {v : V} {x : Exit} (hx : x = .ret ∨ x = .normal) (hP : c.P = P) (hnd : c.fm.Nodup) (hr : resL P (killM σ c.fm) fn.results.toList = some vs) (hv : tupC vs = some v)
    (h : ∀ e u w, RealW c (killM σ c.fm) e w → OkV (killM σ c.fm) e v u → (∀ n ∈ v.names, killM σ c.fm (.l n) ≠ none) → R (.returned u) w) : KW c (bodyPostM Fence.wide nn P fn R x) σ := ⟨fun e a w hR => by
  have key : LeavesInM Fence.wide nn P fn a.tmps R a.defers .returning w := by
    rw [hR.defers]
    refine leaves_marks c.fm σ w hP hR.W hnd hR.fml fun w' hW => ?_
    subst hP
    have hS : Slots c (killM σ c.fm) e a.tmps := ⟨fun i v hx => by
      rw [killM_t] at hx
      obtain ⟨u, h1, h2⟩ := hR.tmp i v hx
      exact ⟨u, h1, h2.mono fun m hm => ⟨fun hl => by
        unfold live at *
        rw [killM_l] at hl
        split at hl
        · cases hl
        · exact hl, .rfl⟩⟩⟩
    obtain ⟨u, h1, h2, h3⟩ := results_ok hS hW hr hv
    exact ⟨u, h1, h e u w' hW h2 h3⟩
  rcases hx with rfl | rfl <;> exact key⟩
end
end Go.Proofs.Ytbjogekhedglgaa.EV
namespace Go.Proofs.Ytbjogekhedglgaa.EV
open Go.RowKit
section
variable {c : Ctx} {F : Fence} {nn : Nat} {σ s : Sf} {e : Env} {a : Act} {w w' : World} {Q : Exit → Act → World → Prop}
theorem OkVs.append : ∀ {vs ws : List V} {us xs : List Value}, OkVs s e vs us → OkVs s e ws xs → OkVs s e (vs ++ ws) (us ++ xs)
  | [], _, _, _, h, k => by rw [show _ = [] from h]; exact k
  | v :: vs, ws, _, xs, ⟨u, r, hu, h1, h2⟩, k => by subst hu; exact ⟨u, r ++ xs, rfl, h1, h2.append k⟩
def capV (ca : List (Nat × Nat)) : List V := ca.map fun q => .c (.p q.1 q.2)
def capU (e : Env) (ca : List (Nat × Nat)) : List Value := ca.map fun q => Value.pointer (some ⟨e.id q.1, e.bs q.1 + q.2, none⟩)
theorem caps_ok : ∀ (ca : List (Nat × Nat)), OkVs s e (capV ca) (capU e ca)
  | [] => rfl
  | q :: ca => ⟨_, _, rfl, fun _ => rfl, caps_ok ca⟩
theorem capV_names {ca : List (Nat × Nat)} {v : V} (hv : v ∈ capV ca) {n : Nat} (hn : n ∈ v.names) : ∃ q ∈ ca, n = q.1 := by
  simp only [capV, List.mem_map] at hv
  obtain ⟨q, hq, rfl⟩ := hv
  exact ⟨q, hq, by simpa [V.names, C.names] using hn⟩
theorem eval_f {x : Operand} {g : FuncId} {ca : List (Nat × Nat)} (hx : opv σ x = some (.c (.f g ca))) (hca : ∀ q ∈ ca, σ (.l q.1) = some (.l true)) (hR : Real c σ e a w) : a.eval x = .func (.func g) #[] (capU e ca).toArray :=
  eval_opv hx hR fun n hn => by
    simp only [C.names, List.mem_map] at hn
    obtain ⟨q, hq, rfl⟩ := hn
    exact hca q hq
end
end Go.Proofs.Ytbjogekhedglgaa.EV
namespace Go.Proofs.Ytbjogekhedglgaa.EV
noncomputable section
open Go.RowKit
open SX (eqs)
def lv (s : Sf) (n : Nat) : Bool := match s (.l n) with
  | some (.l b) => b
  | _ => false
end
end Go.Proofs.Ytbjogekhedglgaa.EV
namespace Go.Proofs.Ytbjogekhedglgaa.EV
noncomputable section
open Go.RowKit
/-- What becomes of blocks: nothing; a new one; one that is changed; one that is given up for a new one. -/
inductive Eff where
  | no
  | new (b : B)
  | chg (n : Nat) (b : B)
  | steal (n : Nat) (b : B)
def Eff.ws (m : Nat) : Eff → Ws
  | .no => []
  | .new b => wsNew m b
  | .chg n b => [(.b n, .b b)]
  | .steal n b => wsSteal n m b
def Eff.fresh : Eff → Bool
  | .new _ => true
  | .steal _ _ => true
  | _ => false
end
end Go.Proofs.Ytbjogekhedglgaa.EV
