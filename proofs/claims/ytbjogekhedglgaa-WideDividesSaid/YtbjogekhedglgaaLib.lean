/- Helpers of our own: blocks that are known whole, ranges over functions as folds over lists. No program in sight. -/
import Derived.RangeFuncNested
import Derived.RangeFuncLeaves
import Derived.WalkKit
import Derived.OwnWalkIn
import Derived.TacticsInMore
import Derived.LoopNIn
import Derived.LoopIn
import Derived.Handy
import Derived.Lib.Hide
import Derived.BigQuiet
import Derived.Deep.RegionHeld3
import Derived.StillTailTactics
import Derived.OrdersIn
import Derived.Deep.Quiet
import Derived.Deep.MidRow
import Derived.Shelf.Abstract
namespace Go.Proofs.Ytbjogekhedglgaa
open Go.RowKit

/-! ### Blocks -/
theorem grownBy_setCell_any (W : World) (p : Addr) (v : Value) : W.grownBy (W.setCell p v) (some p.block) :=
  ⟨rfl, rfl, rfl, by simp [World.setCell], fun k _ hk => Below.heap_setCell _ _ _ k (fun e => hk (by rw [e]))⟩
/-- Block b is just the cells cs of type t, none of them frozen. -/
def Blk (W : World) (b : Nat) (t : TypeId) (cs : Array Value) : Prop := W.heap[b]? = some (.cells cs t (0, 0))

section
variable {W W' : World} {b : Nat} {t : TypeId} {cs : Array Value}
theorem Blk.lt (h : Blk W b t cs) : b < W.heap.size := (Array.getElem?_eq_some_iff.1 h).1
theorem Blk.cell (h : Blk W b t cs) (i : Nat) : W.cell? ⟨b, i, none⟩ = cs[i]? := by
  unfold Blk at h; simp [World.cell?, h]
theorem Blk.frozen (h : Blk W b t cs) (i : Nat) : W.frozen? ⟨b, i, none⟩ = false := by
  unfold Blk at h; simp [World.frozen?, h]
theorem Blk.new (W : World) (t : TypeId) (cs : Array Value) : Blk (W.alloc (.cells cs t)) W.heap.size t cs := World.alloc_heap_new W _
theorem Blk.of_same (h : Blk W b t cs) (hs : W'.heap[b]? = W.heap[b]?) : Blk W' b t cs := hs.trans h
theorem Blk.alloc (h : Blk W b t cs) (o : Obj) : Blk (W.alloc o) b t cs := (Below.heap_alloc W o b h.lt).trans h
theorem Blk.drew (h : Blk W b t cs) : Blk W.drew b t cs := h
theorem Blk.drewN (h : Blk W b t cs) (n : Nat) : Blk (W.drewN n) b t cs := h
theorem Blk.set (h : Blk W b t cs) (i : Nat) (u : Value) : Blk (W.setCell ⟨b, i, none⟩ u) b t (cs.setIfInBounds i u) := by
  unfold Blk at h ⊢
  simp [World.setCell, Array.getElem?_modify, h]
theorem Blk.far (h : Blk W b t cs) {p : Addr} (hp : b ≠ p.block) (u : Value) : Blk (W.setCell p u) b t cs := (Below.heap_setCell W p u b hp).trans h
theorem Blk.below {B : Nat} (h : Blk W b t cs) (hb : Below B W W') (hl : b < B) : Blk W' b t cs := (hb.block b hl).trans h
theorem Blk.grown {row : Option Nat} (h : Blk W b t cs) (hb : W.grownBy W' row) (hne : some b ≠ row) : Blk W' b t cs := (hb.block b h.lt hne).trans h
end

section
variable {W W' : World} {b : Nat} {t : TypeId} {cs : Array Value}
theorem Blk.range (h : Blk W b t cs) : W.rangeAt b 0 cs.toList := fun j v hv => by
  rw [Nat.zero_add, h.cell]; simpa using hv
theorem Blk.there (h : Blk W b t cs) : W.there b 0 cs.size := fun j hj => by
  rw [Nat.zero_add, h.cell, h.frozen]; exact ⟨by simp [hj], rfl⟩
theorem setCells_grown (b : Nat) : ∀ (vs : List Value) (o : Nat) (w : World), w.grownBy (w.setCells b o vs) (some b)
  | [], _, w => World.grownBy.refl w _
  | v :: r, o, w => by
    rw [World.setCells]
    have h := setCells_grown b r (o + 1) (w.setCell ⟨b, o, none⟩ v)
    have h0 := grownBy_setCell_any w ⟨b, o, none⟩ v
    exact ⟨h.os.trans h0.os, h.tape.trans h0.tape, h.output.trans h0.output, Nat.le_trans h0.size h.size, fun k hk hne => (h.block k (Nat.lt_of_lt_of_le hk h0.size) hne).trans (h0.block k hk hne)⟩
theorem setCells_blk : ∀ (vs : List Value) (pre : List Value) (mid : List Value) (w : World), mid.length = vs.length → Blk w b t (pre ++ mid).toArray → Blk (w.setCells b pre.length vs) b t (pre ++ vs).toArray
  | [], pre, [], w, _, h => h
  | v :: r, pre, m :: mid, w, hl, h => by
    rw [World.setCells]
    have h1 : Blk (w.setCell ⟨b, pre.length, none⟩ v) b t ((pre ++ [v]) ++ mid).toArray := by
      have := h.set pre.length v
      simpa using this
    have := setCells_blk r (pre ++ [v]) mid _ (by simpa using hl) h1
    simpa using this
theorem Blk.setAll (h : Blk W b t cs) (cs' : Array Value) (hs : cs'.size = cs.size) : Blk (W.setCells b 0 cs'.toList) b t cs' := by
  have := setCells_blk (b := b) (t := t) cs'.toList [] cs.toList W (by simpa using hs.symm) (by simpa using h)
  simpa using this
end

theorem Blk.putObj {W : World} {b : Nat} {t : TypeId} {cs : Array Value} (h : Blk W b t cs) {D : Nat} (hD : b ≠ D) (o : Obj) : Blk (W.putObj D o) b t cs := (World.putObj_heap_other hD).trans h
theorem below_putObj {B : Nat} {A W : World} (h : Below B A W) {D : Nat} (hD : B ≤ D) (o : Obj) : Below B A (W.putObj D o) :=
  ⟨h.os, h.tape, h.output, by simpa using h.size, fun k hk => (World.putObj_heap_other (by omega)).trans (h.block k hk)⟩
theorem kept_grown {A W : World} {row : Option Nat} (h : A.grownBy W row) {D : Nat} {o : Obj} (hD : A.heap[D]? = some o) (hne : some D ≠ row) : W.heap[D]? = some o := (h.block D (Array.getElem?_eq_some_iff.1 hD).1 hne).trans hD

section laws
variable {P : Program} {ops : Array Oper} {rest : List Oper} {op : Oper} {a : Act} {w : World} {Q : Exit → Act → World → Prop}
/-- A whole array or struct out of its block. -/
theorem wpList_load_blk {b : Nat} {t : TypeId} {cs : Array Value} (hb : Blk w b t cs) (ty : TypeId) (x : Operand) (d : TypeDesc) (hgd : op.guard = none) (ho : op.op = .load ty x)
    (hx : a.eval x = .pointer (some ⟨b, 0, none⟩)) (hu : P.underlying ty = some d) (hd : d.isRow = true) (hi : (P.info? ty).map (·.size) = some cs.size)
    (h : wpList P ops Q rest (a.put op.dst (.agg cs)) w) : wpList P ops Q (op :: rest) a w :=
  wpList_load_mid hgd ty x ho b 0 hx cs.toList d hb.range hu hd (by simpa using hi) (by simpa using h)
/-- A whole array or struct into its block. -/
theorem wpList_store_blk {b : Nat} {t : TypeId} {cs cs' : Array Value} (hb : Blk w b t cs) (ty : TypeId) (x y : Operand) (hgd : op.guard = none) (ho : op.op = .store ty x y)
    (hx : a.eval x = .pointer (some ⟨b, 0, none⟩)) (hy : a.eval y = .agg cs') (hs : cs'.size = cs.size) (hi : (P.info? ty).map (·.size) = some cs'.size) (h1 : cs'.all (·.oneCell') = true)
    (h : ∀ w', Blk w' b t cs' → w.grownBy w' (some b) → wpList P ops Q rest (a.put op.dst undef) w') : wpList P ops Q (op :: rest) a w :=
  wpList_store_mid hgd ty x y ho b 0 cs' hx hy (by rw [hs]; exact hb.there) hi h1 (h _ (hb.setAll cs' hs) (setCells_grown b _ _ _))
/-- A result that lies in a variable of its own. -/
theorem results_cell {fn : Func} {s : Tmp} {ty : TypeId} {tmps : Array Value} {b : Nat} {t : TypeId} {cs : Array Value} {d : TypeDesc} (hb : Blk w b t cs) (hr : fn.results = #[.cell s ty]) (hx : tmps.getD s undef = .pointer (some ⟨b, 0, none⟩))
    (hu : P.underlying ty = some d) (hd : d.isRow = true) (hi : (P.info? ty).map (·.size) = some cs.size) : (results fn tmps).run P w = .ok (.agg cs) w := by
  have hl := run_loadVar_mid (P := P) w b 0 ty cs.toList d hb.range hu hd (by simpa using hi)
  have hx' : tmps[s]?.getD undef = .pointer (some ⟨b, 0, none⟩) := by rw [← hx]; simp [Array.getD_eq_getD_getElem?]
  simp [results, hr, hx', asAddr, hl]
theorem results_cell_tmp {fn : Func} {s u : Tmp} {ty : TypeId} {tmps : Array Value} {b : Nat} {t : TypeId} {cs : Array Value} {d : TypeDesc} (hb : Blk w b t cs) (hr : fn.results = #[.cell s ty, .tmp u]) (hx : tmps.getD s undef = .pointer (some ⟨b, 0, none⟩))
    (hu : P.underlying ty = some d) (hd : d.isRow = true) (hi : (P.info? ty).map (·.size) = some cs.size) : (results fn tmps).run P w = .ok (.tuple #[.agg cs, tmps.getD u undef]) w := by
  have hl := run_loadVar_mid (P := P) w b 0 ty cs.toList d hb.range hu hd (by simpa using hi)
  have hx' : tmps[s]?.getD undef = .pointer (some ⟨b, 0, none⟩) := by rw [← hx]; simp [Array.getD_eq_getD_getElem?]
  simp [results, hr, hx', asAddr, hl]
theorem results_cell_tmp2 {fn : Func} {s u v : Tmp} {ty : TypeId} {tmps : Array Value} {b : Nat} {t : TypeId} {cs : Array Value} {d : TypeDesc} (hb : Blk w b t cs) (hr : fn.results = #[.cell s ty, .tmp u, .tmp v]) (hx : tmps.getD s undef = .pointer (some ⟨b, 0, none⟩))
    (hu : P.underlying ty = some d) (hd : d.isRow = true) (hi : (P.info? ty).map (·.size) = some cs.size) : (results fn tmps).run P w = .ok (.tuple #[.agg cs, tmps.getD u undef, tmps.getD v undef]) w := by
  have hl := run_loadVar_mid (P := P) w b 0 ty cs.toList d hb.range hu hd (by simpa using hi)
  have hx' : tmps[s]?.getD undef = .pointer (some ⟨b, 0, none⟩) := by rw [← hx]; simp [Array.getD_eq_getD_getElem?]
  simp [results, hr, hx', asAddr, hl]
end laws

/-- A block of cells stands the turn of a block that is none. -/
theorem blk_own {β : Type} (B b : Nat) (t : TypeId) (f : β → Array Value) : OwnFrom B (fun s W => Blk W b t (f s)) := fun s X Y row hs hg hr =>
  hs.grown hg (fun e' => by obtain ⟨_, o, ho, hc⟩ := hr b e'.symm; rw [show X.heap[b]? = _ from hs] at ho; cases ho; cases hc)
theorem const_own {β : Type} (B : Nat) (p : β → Prop) : OwnFrom B (fun s (_ : World) => p s) := fun _ _ _ _ hs _ _ => hs
theorem ex_own {β γ : Type} {B : Nat} {I : γ → β → World → Prop} (h : ∀ c, OwnFrom B (I c)) : OwnFrom B (fun s W => ∃ c, I c s W) := fun s X Y row ⟨c, hs⟩ hg hr => ⟨c, h c s X Y row hs hg hr⟩

/-! ### What a call leaves of the blocks that were laid just ahead of it -/
theorem below1 {w w2 : World} {c0 : Array Value} {t0 : TypeId} {f0 : Nat × Nat} (hb : Below (w.alloc (.cells c0 t0 f0)).heap.size (w.alloc (.cells c0 t0 f0)) w2) : Below w.heap.size w w2 ∧ w.heap.size < w2.heap.size := by
  have hs := hb.size
  simp only [World.size_alloc] at hs
  exact ⟨(Below.trans (by go_grown) (hb.mono (by simp))), by omega⟩
theorem blk1_0 {w w2 : World} {c : Array Value} {t : TypeId}  (hb : Below (w.alloc (.cells c t)).heap.size (w.alloc (.cells c t)) w2) : Blk w2 (w.heap.size) t c := by
  have h := Blk.new w t c
  try simp only [World.size_alloc] at h
  exact (h).below hb (by simp only [World.size_alloc]; omega)
theorem below2 {w w2 : World} {c0 : Array Value} {t0 : TypeId} {f0 : Nat × Nat} {c1 : Array Value} {t1 : TypeId} {f1 : Nat × Nat} (hb : Below ((w.alloc (.cells c0 t0 f0)).alloc (.cells c1 t1 f1)).heap.size ((w.alloc (.cells c0 t0 f0)).alloc (.cells c1 t1 f1)) w2) : Below w.heap.size w w2 ∧ w.heap.size < w2.heap.size ∧ w.heap.size + 1 < w2.heap.size := by
  have hs := hb.size
  simp only [World.size_alloc] at hs
  exact ⟨(Below.trans (by go_grown) (hb.mono (by simp; omega))), by omega, by omega⟩
theorem blk2_0 {w w2 : World} {c : Array Value} {t : TypeId} {o1 : Obj} (hb : Below ((w.alloc (.cells c t)).alloc o1).heap.size ((w.alloc (.cells c t)).alloc o1) w2) : Blk w2 (w.heap.size) t c := by
  have h := Blk.new w t c
  try simp only [World.size_alloc] at h
  exact ((h.alloc _)).below hb (by simp only [World.size_alloc]; omega)
theorem blk2_1 {w w2 : World} {c : Array Value} {t : TypeId} {o0 : Obj} (hb : Below ((w.alloc o0).alloc (.cells c t)).heap.size ((w.alloc o0).alloc (.cells c t)) w2) : Blk w2 (w.heap.size + 1) t c := by
  have h := Blk.new (w.alloc o0) t c
  try simp only [World.size_alloc] at h
  exact (h).below hb (by simp only [World.size_alloc]; omega)
theorem below3 {w w2 : World} {c0 : Array Value} {t0 : TypeId} {f0 : Nat × Nat} {c1 : Array Value} {t1 : TypeId} {f1 : Nat × Nat} {c2 : Array Value} {t2 : TypeId} {f2 : Nat × Nat} (hb : Below (((w.alloc (.cells c0 t0 f0)).alloc (.cells c1 t1 f1)).alloc (.cells c2 t2 f2)).heap.size (((w.alloc (.cells c0 t0 f0)).alloc (.cells c1 t1 f1)).alloc (.cells c2 t2 f2)) w2) : Below w.heap.size w w2 ∧ w.heap.size < w2.heap.size ∧ w.heap.size + 1 < w2.heap.size ∧ w.heap.size + 1 + 1 < w2.heap.size := by
  have hs := hb.size
  simp only [World.size_alloc] at hs
  exact ⟨(Below.trans (by go_grown) (hb.mono (by simp; omega))), by omega, by omega, by omega⟩
theorem blk3_0 {w w2 : World} {c : Array Value} {t : TypeId} {o1 : Obj} {o2 : Obj} (hb : Below (((w.alloc (.cells c t)).alloc o1).alloc o2).heap.size (((w.alloc (.cells c t)).alloc o1).alloc o2) w2) : Blk w2 (w.heap.size) t c := by
  have h := Blk.new w t c
  try simp only [World.size_alloc] at h
  exact (((h.alloc _).alloc _)).below hb (by simp only [World.size_alloc]; omega)
theorem blk3_1 {w w2 : World} {c : Array Value} {t : TypeId} {o0 : Obj} {o2 : Obj} (hb : Below (((w.alloc o0).alloc (.cells c t)).alloc o2).heap.size (((w.alloc o0).alloc (.cells c t)).alloc o2) w2) : Blk w2 (w.heap.size + 1) t c := by
  have h := Blk.new (w.alloc o0) t c
  try simp only [World.size_alloc] at h
  exact ((h.alloc _)).below hb (by simp only [World.size_alloc]; omega)
theorem blk3_2 {w w2 : World} {c : Array Value} {t : TypeId} {o0 : Obj} {o1 : Obj} (hb : Below (((w.alloc o0).alloc o1).alloc (.cells c t)).heap.size (((w.alloc o0).alloc o1).alloc (.cells c t)) w2) : Blk w2 (w.heap.size + 1 + 1) t c := by
  have h := Blk.new ((w.alloc o0).alloc o1) t c
  try simp only [World.size_alloc] at h
  exact (h).below hb (by simp only [World.size_alloc]; omega)
theorem below4 {w w2 : World} {c0 : Array Value} {t0 : TypeId} {f0 : Nat × Nat} {c1 : Array Value} {t1 : TypeId} {f1 : Nat × Nat} {c2 : Array Value} {t2 : TypeId} {f2 : Nat × Nat} {c3 : Array Value} {t3 : TypeId} {f3 : Nat × Nat} (hb : Below ((((w.alloc (.cells c0 t0 f0)).alloc (.cells c1 t1 f1)).alloc (.cells c2 t2 f2)).alloc (.cells c3 t3 f3)).heap.size ((((w.alloc (.cells c0 t0 f0)).alloc (.cells c1 t1 f1)).alloc (.cells c2 t2 f2)).alloc (.cells c3 t3 f3)) w2) : Below w.heap.size w w2 ∧ w.heap.size < w2.heap.size ∧ w.heap.size + 1 < w2.heap.size ∧ w.heap.size + 1 + 1 < w2.heap.size ∧ w.heap.size + 1 + 1 + 1 < w2.heap.size := by
  have hs := hb.size
  simp only [World.size_alloc] at hs
  exact ⟨(Below.trans (by go_grown) (hb.mono (by simp; omega))), by omega, by omega, by omega, by omega⟩
theorem blk4_0 {w w2 : World} {c : Array Value} {t : TypeId} {o1 : Obj} {o2 : Obj} {o3 : Obj} (hb : Below ((((w.alloc (.cells c t)).alloc o1).alloc o2).alloc o3).heap.size ((((w.alloc (.cells c t)).alloc o1).alloc o2).alloc o3) w2) : Blk w2 (w.heap.size) t c := by
  have h := Blk.new w t c
  try simp only [World.size_alloc] at h
  exact ((((h.alloc _).alloc _).alloc _)).below hb (by simp only [World.size_alloc]; omega)
theorem blk4_1 {w w2 : World} {c : Array Value} {t : TypeId} {o0 : Obj} {o2 : Obj} {o3 : Obj} (hb : Below ((((w.alloc o0).alloc (.cells c t)).alloc o2).alloc o3).heap.size ((((w.alloc o0).alloc (.cells c t)).alloc o2).alloc o3) w2) : Blk w2 (w.heap.size + 1) t c := by
  have h := Blk.new (w.alloc o0) t c
  try simp only [World.size_alloc] at h
  exact (((h.alloc _).alloc _)).below hb (by simp only [World.size_alloc]; omega)
theorem blk4_2 {w w2 : World} {c : Array Value} {t : TypeId} {o0 : Obj} {o1 : Obj} {o3 : Obj} (hb : Below ((((w.alloc o0).alloc o1).alloc (.cells c t)).alloc o3).heap.size ((((w.alloc o0).alloc o1).alloc (.cells c t)).alloc o3) w2) : Blk w2 (w.heap.size + 1 + 1) t c := by
  have h := Blk.new ((w.alloc o0).alloc o1) t c
  try simp only [World.size_alloc] at h
  exact ((h.alloc _)).below hb (by simp only [World.size_alloc]; omega)
theorem blk4_3 {w w2 : World} {c : Array Value} {t : TypeId} {o0 : Obj} {o1 : Obj} {o2 : Obj} (hb : Below ((((w.alloc o0).alloc o1).alloc o2).alloc (.cells c t)).heap.size ((((w.alloc o0).alloc o1).alloc o2).alloc (.cells c t)) w2) : Blk w2 (w.heap.size + 1 + 1 + 1) t c := by
  have h := Blk.new (((w.alloc o0).alloc o1).alloc o2) t c
  try simp only [World.size_alloc] at h
  exact (h).below hb (by simp only [World.size_alloc]; omega)
theorem below5 {w w2 : World} {c0 : Array Value} {t0 : TypeId} {f0 : Nat × Nat} {c1 : Array Value} {t1 : TypeId} {f1 : Nat × Nat} {c2 : Array Value} {t2 : TypeId} {f2 : Nat × Nat} {c3 : Array Value} {t3 : TypeId} {f3 : Nat × Nat} {c4 : Array Value} {t4 : TypeId} {f4 : Nat × Nat} (hb : Below (((((w.alloc (.cells c0 t0 f0)).alloc (.cells c1 t1 f1)).alloc (.cells c2 t2 f2)).alloc (.cells c3 t3 f3)).alloc (.cells c4 t4 f4)).heap.size (((((w.alloc (.cells c0 t0 f0)).alloc (.cells c1 t1 f1)).alloc (.cells c2 t2 f2)).alloc (.cells c3 t3 f3)).alloc (.cells c4 t4 f4)) w2) : Below w.heap.size w w2 ∧ w.heap.size < w2.heap.size ∧ w.heap.size + 1 < w2.heap.size ∧ w.heap.size + 1 + 1 < w2.heap.size ∧ w.heap.size + 1 + 1 + 1 < w2.heap.size ∧ w.heap.size + 1 + 1 + 1 + 1 < w2.heap.size := by
  have hs := hb.size
  simp only [World.size_alloc] at hs
  exact ⟨(Below.trans (by go_grown) (hb.mono (by simp; omega))), by omega, by omega, by omega, by omega, by omega⟩
theorem blk5_0 {w w2 : World} {c : Array Value} {t : TypeId} {o1 : Obj} {o2 : Obj} {o3 : Obj} {o4 : Obj} (hb : Below (((((w.alloc (.cells c t)).alloc o1).alloc o2).alloc o3).alloc o4).heap.size (((((w.alloc (.cells c t)).alloc o1).alloc o2).alloc o3).alloc o4) w2) : Blk w2 (w.heap.size) t c := by
  have h := Blk.new w t c
  try simp only [World.size_alloc] at h
  exact (((((h.alloc _).alloc _).alloc _).alloc _)).below hb (by simp only [World.size_alloc]; omega)
theorem blk5_1 {w w2 : World} {c : Array Value} {t : TypeId} {o0 : Obj} {o2 : Obj} {o3 : Obj} {o4 : Obj} (hb : Below (((((w.alloc o0).alloc (.cells c t)).alloc o2).alloc o3).alloc o4).heap.size (((((w.alloc o0).alloc (.cells c t)).alloc o2).alloc o3).alloc o4) w2) : Blk w2 (w.heap.size + 1) t c := by
  have h := Blk.new (w.alloc o0) t c
  try simp only [World.size_alloc] at h
  exact ((((h.alloc _).alloc _).alloc _)).below hb (by simp only [World.size_alloc]; omega)
theorem blk5_2 {w w2 : World} {c : Array Value} {t : TypeId} {o0 : Obj} {o1 : Obj} {o3 : Obj} {o4 : Obj} (hb : Below (((((w.alloc o0).alloc o1).alloc (.cells c t)).alloc o3).alloc o4).heap.size (((((w.alloc o0).alloc o1).alloc (.cells c t)).alloc o3).alloc o4) w2) : Blk w2 (w.heap.size + 1 + 1) t c := by
  have h := Blk.new ((w.alloc o0).alloc o1) t c
  try simp only [World.size_alloc] at h
  exact (((h.alloc _).alloc _)).below hb (by simp only [World.size_alloc]; omega)
theorem blk5_3 {w w2 : World} {c : Array Value} {t : TypeId} {o0 : Obj} {o1 : Obj} {o2 : Obj} {o4 : Obj} (hb : Below (((((w.alloc o0).alloc o1).alloc o2).alloc (.cells c t)).alloc o4).heap.size (((((w.alloc o0).alloc o1).alloc o2).alloc (.cells c t)).alloc o4) w2) : Blk w2 (w.heap.size + 1 + 1 + 1) t c := by
  have h := Blk.new (((w.alloc o0).alloc o1).alloc o2) t c
  try simp only [World.size_alloc] at h
  exact ((h.alloc _)).below hb (by simp only [World.size_alloc]; omega)
theorem blk5_4 {w w2 : World} {c : Array Value} {t : TypeId} {o0 : Obj} {o1 : Obj} {o2 : Obj} {o3 : Obj} (hb : Below (((((w.alloc o0).alloc o1).alloc o2).alloc o3).alloc (.cells c t)).heap.size (((((w.alloc o0).alloc o1).alloc o2).alloc o3).alloc (.cells c t)) w2) : Blk w2 (w.heap.size + 1 + 1 + 1 + 1) t c := by
  have h := Blk.new ((((w.alloc o0).alloc o1).alloc o2).alloc o3) t c
  try simp only [World.size_alloc] at h
  exact (h).below hb (by simp only [World.size_alloc]; omega)
theorem below6 {w w2 : World} {c0 : Array Value} {t0 : TypeId} {f0 : Nat × Nat} {c1 : Array Value} {t1 : TypeId} {f1 : Nat × Nat} {c2 : Array Value} {t2 : TypeId} {f2 : Nat × Nat} {c3 : Array Value} {t3 : TypeId} {f3 : Nat × Nat} {c4 : Array Value} {t4 : TypeId} {f4 : Nat × Nat} {c5 : Array Value} {t5 : TypeId} {f5 : Nat × Nat} (hb : Below ((((((w.alloc (.cells c0 t0 f0)).alloc (.cells c1 t1 f1)).alloc (.cells c2 t2 f2)).alloc (.cells c3 t3 f3)).alloc (.cells c4 t4 f4)).alloc (.cells c5 t5 f5)).heap.size ((((((w.alloc (.cells c0 t0 f0)).alloc (.cells c1 t1 f1)).alloc (.cells c2 t2 f2)).alloc (.cells c3 t3 f3)).alloc (.cells c4 t4 f4)).alloc (.cells c5 t5 f5)) w2) : Below w.heap.size w w2 ∧ w.heap.size < w2.heap.size ∧ w.heap.size + 1 < w2.heap.size ∧ w.heap.size + 1 + 1 < w2.heap.size ∧ w.heap.size + 1 + 1 + 1 < w2.heap.size ∧ w.heap.size + 1 + 1 + 1 + 1 < w2.heap.size ∧ w.heap.size + 1 + 1 + 1 + 1 + 1 < w2.heap.size := by
  have hs := hb.size
  simp only [World.size_alloc] at hs
  exact ⟨(Below.trans (by go_grown) (hb.mono (by simp; omega))), by omega, by omega, by omega, by omega, by omega, by omega⟩
theorem blk6_0 {w w2 : World} {c : Array Value} {t : TypeId} {o1 : Obj} {o2 : Obj} {o3 : Obj} {o4 : Obj} {o5 : Obj} (hb : Below ((((((w.alloc (.cells c t)).alloc o1).alloc o2).alloc o3).alloc o4).alloc o5).heap.size ((((((w.alloc (.cells c t)).alloc o1).alloc o2).alloc o3).alloc o4).alloc o5) w2) : Blk w2 (w.heap.size) t c := by
  have h := Blk.new w t c
  try simp only [World.size_alloc] at h
  exact ((((((h.alloc _).alloc _).alloc _).alloc _).alloc _)).below hb (by simp only [World.size_alloc]; omega)
theorem blk6_1 {w w2 : World} {c : Array Value} {t : TypeId} {o0 : Obj} {o2 : Obj} {o3 : Obj} {o4 : Obj} {o5 : Obj} (hb : Below ((((((w.alloc o0).alloc (.cells c t)).alloc o2).alloc o3).alloc o4).alloc o5).heap.size ((((((w.alloc o0).alloc (.cells c t)).alloc o2).alloc o3).alloc o4).alloc o5) w2) : Blk w2 (w.heap.size + 1) t c := by
  have h := Blk.new (w.alloc o0) t c
  try simp only [World.size_alloc] at h
  exact (((((h.alloc _).alloc _).alloc _).alloc _)).below hb (by simp only [World.size_alloc]; omega)
theorem blk6_2 {w w2 : World} {c : Array Value} {t : TypeId} {o0 : Obj} {o1 : Obj} {o3 : Obj} {o4 : Obj} {o5 : Obj} (hb : Below ((((((w.alloc o0).alloc o1).alloc (.cells c t)).alloc o3).alloc o4).alloc o5).heap.size ((((((w.alloc o0).alloc o1).alloc (.cells c t)).alloc o3).alloc o4).alloc o5) w2) : Blk w2 (w.heap.size + 1 + 1) t c := by
  have h := Blk.new ((w.alloc o0).alloc o1) t c
  try simp only [World.size_alloc] at h
  exact ((((h.alloc _).alloc _).alloc _)).below hb (by simp only [World.size_alloc]; omega)
theorem blk6_3 {w w2 : World} {c : Array Value} {t : TypeId} {o0 : Obj} {o1 : Obj} {o2 : Obj} {o4 : Obj} {o5 : Obj} (hb : Below ((((((w.alloc o0).alloc o1).alloc o2).alloc (.cells c t)).alloc o4).alloc o5).heap.size ((((((w.alloc o0).alloc o1).alloc o2).alloc (.cells c t)).alloc o4).alloc o5) w2) : Blk w2 (w.heap.size + 1 + 1 + 1) t c := by
  have h := Blk.new (((w.alloc o0).alloc o1).alloc o2) t c
  try simp only [World.size_alloc] at h
  exact (((h.alloc _).alloc _)).below hb (by simp only [World.size_alloc]; omega)
theorem blk6_4 {w w2 : World} {c : Array Value} {t : TypeId} {o0 : Obj} {o1 : Obj} {o2 : Obj} {o3 : Obj} {o5 : Obj} (hb : Below ((((((w.alloc o0).alloc o1).alloc o2).alloc o3).alloc (.cells c t)).alloc o5).heap.size ((((((w.alloc o0).alloc o1).alloc o2).alloc o3).alloc (.cells c t)).alloc o5) w2) : Blk w2 (w.heap.size + 1 + 1 + 1 + 1) t c := by
  have h := Blk.new ((((w.alloc o0).alloc o1).alloc o2).alloc o3) t c
  try simp only [World.size_alloc] at h
  exact ((h.alloc _)).below hb (by simp only [World.size_alloc]; omega)
theorem blk6_5 {w w2 : World} {c : Array Value} {t : TypeId} {o0 : Obj} {o1 : Obj} {o2 : Obj} {o3 : Obj} {o4 : Obj} (hb : Below ((((((w.alloc o0).alloc o1).alloc o2).alloc o3).alloc o4).alloc (.cells c t)).heap.size ((((((w.alloc o0).alloc o1).alloc o2).alloc o3).alloc o4).alloc (.cells c t)) w2) : Blk w2 (w.heap.size + 1 + 1 + 1 + 1 + 1) t c := by
  have h := Blk.new (((((w.alloc o0).alloc o1).alloc o2).alloc o3).alloc o4) t c
  try simp only [World.size_alloc] at h
  exact (h).below hb (by simp only [World.size_alloc]; omega)
theorem Below.undrew {B : Nat} {W w2 : World} (h : Below B W.drew w2) : Below B W w2 := ⟨h.os, h.tape, h.output, h.size, h.block⟩
theorem Below.undrewN {B n : Nat} {W w2 : World} (h : Below B (W.drewN n) w2) : Below B W w2 := ⟨h.os, h.tape, h.output, h.size, h.block⟩
/-- Guards for the arms of a walk: the operation that stands next is just this one. -/
theorem at_store (ty : TypeId) (s : Tmp) {P : Program} {ops : Array Oper} {Q : Exit → Act → World → Prop} {dst : Option Tmp} {x : Operand} {rt : TypeId} {pos : String} {after : Array Edge} {g : Option (Nat × Bool)} {rest : List Oper} {a : Act} {w : World}
    (h : wpList P ops Q (⟨dst, .store ty (.tmp s) x, rt, pos, after, g⟩ :: rest) a w) : wpList P ops Q (⟨dst, .store ty (.tmp s) x, rt, pos, after, g⟩ :: rest) a w := h
theorem at_load (ty : TypeId) (s : Tmp) {P : Program} {ops : Array Oper} {Q : Exit → Act → World → Prop} {dst : Option Tmp} {rt : TypeId} {pos : String} {after : Array Edge} {g : Option (Nat × Bool)} {rest : List Oper} {a : Act} {w : World}
    (h : wpList P ops Q (⟨dst, .load ty (.tmp s), rt, pos, after, g⟩ :: rest) a w) : wpList P ops Q (⟨dst, .load ty (.tmp s), rt, pos, after, g⟩ :: rest) a w := h
/-- A known block as rules for the walk. -/
theorem Blk.rules {W : World} {b : Nat} {t : TypeId} {cs : Array Value} (h : Blk W b t cs) : (∀ i, W.cell? ⟨b, i, none⟩ = cs[i]?) ∧ ∀ i, W.frozen? ⟨b, i, none⟩ = false := ⟨h.cell, h.frozen⟩

/-! ### Ranges over functions -/
theorem wide_fn (f : Nat) : Fence.wide.fn f = True := rfl
theorem wide_depth : Fence.wide.depth = none := rfl

/-- The blocks of L lie as they lay. -/
def Same (L : List Nat) (A B : World) : Prop := ∀ k ∈ L, B.heap[k]? = A.heap[k]?
theorem Same.refl (L : List Nat) (A : World) : Same L A A := fun _ _ => rfl
theorem Same.trans {L : List Nat} {A B C : World} (h : Same L A B) (k : Same L B C) : Same L A C := fun i hi => (k i hi).trans (h i hi)
theorem Same.putObj {L : List Nat} {W : World} {l : Nat} (o : Obj) (h : ∀ k ∈ L, k < l) : Same L W (W.putObj l o) := fun k hk => World.putObj_heap_other (by have := h k hk; omega)
theorem Same.setCell {L : List Nat} {W : World} {p : Addr} (u : Value) (h : ∀ k ∈ L, k ≠ p.block) : Same L W (W.setCell p u) := fun k hk => Below.heap_setCell W p u k (h k hk)
theorem Same.drew {L : List Nat} {A W : World} (h : Same L A W) : Same L A W.drew := h
theorem Same.drewN {L : List Nat} {A W : World} (h : Same L A W) (n : Nat) : Same L A (W.drewN n) := h
theorem keepsFrom_drew {B : Nat} {A W : World} (h : KeepsFrom B A W) : KeepsFrom B A W.drew := ⟨h.size, h.same⟩
theorem keepsFrom_setCell {B : Nat} {A W : World} (h : KeepsFrom B A W) (p : Addr) (u : Value) : KeepsFrom B A (W.setCell p u) := h.trans ((KeepsOthers.setCell W p u).from B)
theorem keepsFrom_alloc {B : Nat} {A W : World} (h : KeepsFrom B A W) (o : Obj) : KeepsFrom B A (W.alloc o) := h.trans ((KeepsOthers.alloc W o).from B)
theorem Same.alloc {L : List Nat} {W : World} (o : Obj) (h : ∀ k ∈ L, k < W.heap.size) : Same L W (W.alloc o) := fun k hk => Below.heap_alloc W o k (h k hk)
theorem Same.of_below {L : List Nat} {B : Nat} {A W : World} (hb : Below B A W) (h : ∀ k ∈ L, k < B) : Same L A W := fun k hk => hb.block k (h k hk)

theorem yieldAt_mono {F : Fence} {m : Nat} {P : Program} {l : Nat} {args : Array Value} {W : World} {R R' : Ending → World → Prop} (h : YieldAt F m P l args W R) (hr : ∀ e w, R e w → R' e w) : YieldAt F m P l args W R' := by
  obtain ⟨fn, tmps, assign, body, hy, hR⟩ := h
  exact ⟨fn, tmps, assign, body, hy, hR.mono hr⟩

/-- What one call of yield owes: 'on' goes on, 'off' says no more. -/
def Yields {α : Type} (P : Program) (l : Nat) (args : Array Value) (L : List Nat) (J Jx : List α → World → Prop) (s : List α) (W : World) : Prop :=
  YieldAt Fence.wide 0 P l args W fun e W' => (e = .returned (.bool true) ∧ J s W' ∧ Same L W W') ∨ (e = .returned (.bool false) ∧ Jx s W')

/-- THE CONTRACT OF AN ITERATOR VALUE: it tells just the list xs, one by one, as long as it is let; the blocks L are what it reads meanwhile. -/
def SeqL {α : Type} (P : Program) (gf : Nat) (lb : Array Value) (encs : α → Array Value) (L : List Nat) (xs : List α) (w : World) : Prop :=
  ∀ (l : Nat) (J Jx : List α → World → Prop) (W : World), Below w.heap.size w W → AbidesFrom W.heap.size J → AbidesFrom W.heap.size Jx →
    (∀ pre x post W1, xs = pre ++ x :: post → J pre W1 → Yields P l (encs x) L J Jx (pre ++ [x]) W1) →
    J [] W →
    CallsIn Fence.wide 1 P gf (#[.func (.yield l) #[] #[]] ++ lb) W fun e W' => (∃ v, e = .returned v) ∧ (J xs W' ∨ ∃ pre, pre <+: xs ∧ Jx pre W')

theorem roundIn_any {m n : Nat} {P : Program} {l : Nat} {f : FuncId} {tmps : Array Value} {assign body : Code} {w : World} {R : Ending → World → Prop} (h : RoundIn Fence.wide m P l f tmps assign body w R) : RoundIn Fence.wide n P l f tmps assign body w R :=
  ⟨h.1, fun c cs _ => h.2 c cs (room_wide _)⟩
theorem callsIn_any {m n : Nat} {P : Program} {f : FuncId} {args : Array Value} {w : World} {R : Ending → World → Prop} (h : CallsIn Fence.wide m P f args w R) : CallsIn Fence.wide n P f args w R := callsIn_wide.2 (callsIn_wide.1 h)

/-- 'for x := range seq { body }' over an iterator that tells the list xs: the round at x has 'pre' behind it. -/
theorem range_loop {α : Type} {P : Program} {n : Nat} {g : Operand} {ps : Array Tmp} {assign body : Code} {Q : Exit → Act → World → Prop} {a : Act} {w : World}
    {gf : Nat} {lb : Array Value} {encs : α → Array Value} {L : List Nat} {xs : List α}
    (hg : a.eval g = .func (.func gf) #[] lb) (eg : ∀ args w, (callFunc gf args).run P w = .ok (.enter gf args) w)
    (hseq : SeqL P gf lb encs L xs w) (hL : ∀ k ∈ L, k < w.heap.size) (hps : ∀ x, (encs x).size = ps.size)
    (I : List α → World → Prop) (Ix : Code → List α → World → Prop) (hI : OwnFrom w.heap.size I) (hIx : ∀ c, OwnFrom w.heap.size (Ix c)) (h0 : I [] w)
    (Ax : List α → α → Act → World → Prop) (hAx : ∀ pre x a', OwnFrom w.heap.size (fun (_ : Unit) W => Ax pre x a' W))
    (hassign : ∀ (l : Nat) (pre : List α) (x : α) (post : List α) (W : World) (K : Act → World → Prop), xs = pre ++ x :: post → I pre W → w.heap.size ≤ W.heap.size →
      (∀ a' W', KeepsFrom w.heap.size W W' → Same L W W' → Ax pre x a' W' → K a' W') →
      assign.wpIn (Fence.wide.inRound l) 0 P (Exit.then K (fun _ _ _ => False)) { tmps := (ps.zip (encs x)).foldl (fun t (p, v) => t.setIfInBounds p v) a.tmps, defers := [] } W)
    (hbody : ∀ (l : Nat) (pre : List α) (x : α) (post : List α) (a' : Act) (W : World), xs = pre ++ x :: post → Ax pre x a' W → w.heap.size ≤ l → (∃ r, W.heap[l]? = some (.loop r)) →
      body.wpIn (Fence.wide.inRound l) 0 P (ownPostG w.heap.size (Same L) I Ix (pre ++ [x]) W) a' W)
    (hdone : ∀ (D : Nat) (W : World), w.heap.size ≤ D → I xs W → W.heap[D]? = some (.deferred (some [])) → Q .normal { a with defers := { target := .collected D, args := #[] } :: a.defers } W)
    (hstop : ∀ (D : Nat) (c : Code) (pre : List α) (W : World), w.heap.size ≤ D → pre <+: xs → Ix c pre W → W.heap[D]? = some (.deferred (some [])) → c.wpIn Fence.wide n P Q { a with defers := { target := .collected D, args := #[] } :: a.defers } W) :
    (Code.rangeFunc g ps assign body).wpIn Fence.wide n P Q a w := by
  refine wpIn_rangeFunc ?_
  intro fn hfn
  rw [show Fence.wide.round = none from rfl]
  obtain ⟨B, hB⟩ : ∃ B, w.heap.size = B := ⟨_, rfl⟩
  -- the loop's record, at each of its states
  obtain ⟨rec, hrec⟩ : ∃ rec : LoopState → Option Code → Loop, rec = fun st pe => { state := st, pending := pe, fn, tmps := a.tmps, params := ps, assign, body, defers := B } := ⟨_, rfl⟩
  have eR : ∀ st pe, ({ state := st, pending := pe, fn, tmps := a.tmps, params := ps, assign, body, defers := B } : Loop) = rec st pe := by rw [hrec]; intro _ _; rfl
  have eB : ∀ st pe st', ({ rec st pe with state := st' } : Loop) = rec st' pe := by rw [hrec]; intro _ _ _; rfl
  have eP : ∀ st pe st' pe', ({ rec st pe with state := st', pending := pe' } : Loop) = rec st' pe' := by rw [hrec]; intro _ _ _ _; rfl
  obtain ⟨W1, hW1⟩ : ∃ W1, (w.alloc (.deferred (some []))).alloc (.loop (rec .ready none)) = W1 := ⟨_, rfl⟩
  have hrun := run_enterLoop_outer (P := P) (w := w) fn a.tmps ps assign body
  rw [hB, eR, hW1] at hrun
  have hs1 : W1.heap.size = B + 2 := by rw [← hW1, ← hB]; simp
  have hR1 : W1.heap[B + 1]? = some (.loop (rec .ready none)) := by
    rw [← hW1]; have := World.alloc_heap_new (w.alloc (.deferred (some []))) (.loop (rec .ready none)); rwa [World.size_alloc, hB] at this
  have hD1 : W1.heap[B]? = some (.deferred (some [])) := by
    rw [← hW1]; exact (Below.heap_alloc _ _ _ (by simp; omega)).trans (by have := World.alloc_heap_new w (.deferred (some [])); rwa [hB] at this)
  have hI1 : I [] W1 := by rw [← hW1]; exact hI.alloc _ (hI.alloc _ h0)
  have hb1 : Below w.heap.size w W1 := by rw [← hW1]; exact ((Below.refl _ w).alloc (Nat.le_refl _) _).alloc (by simp) _
  rw [hB] at hI hIx hAx hassign hbody hdone hstop hb1 hL
  -- a walk's object that the iterator turns is none of the two, and no block of cells
  have hturn : ∀ {A : World} {row : Option Nat}, (∀ r, row = some r → W1.heap.size ≤ r ∧ ∃ o : Obj, A.heap[r]? = some o ∧ o.isWalk = true) → (∀ r, row = some r → B ≤ r ∧ ∃ o : Obj, A.heap[r]? = some o ∧ o.isCells = false) :=
    fun hr r e => by obtain ⟨hb, o, ho, hw⟩ := hr r e; exact ⟨by omega, o, ho, Obj.not_cells_of_walk hw⟩
  refine ⟨B + 1, [{ target := .collected B, args := #[] }], W1, { target := .fn (.func gf) lb, args := #[.func (.yield (B + 1)) #[] #[]] }, W1, gf, #[.func (.yield (B + 1)) #[] #[]] ++ lb, W1, hrun, ?_, fun _ _ => trivial, ?_, fun h => by simp [wide_depth] at h, ?_⟩
  · simp only [resolve, hg]; simp [go_sem]
  · simp [invoke, go_sem, eg]
  refine callsIn_any ((hseq (B + 1)
    (fun pre W => I pre W ∧ W.heap[B + 1]? = some (.loop (rec .ready none)) ∧ W.heap[B]? = some (.deferred (some [])))
    (fun pre W => ∃ c, Ix c pre W ∧ W.heap[B + 1]? = some (.loop (rec .done (some c))) ∧ W.heap[B]? = some (.deferred (some [])))
    W1 (hB ▸ hb1)
    (fun s X Y row hs hg' hr => ⟨hI s X Y row hs.1 hg' (hturn hr), (grownBy_keeps hg' (fun r e => (hr r e).2) hs.2.1 rfl).trans hs.2.1, (grownBy_keeps hg' (fun r e => (hr r e).2) hs.2.2 rfl).trans hs.2.2⟩)
    (fun s X Y row ⟨c, hc, hl, hk⟩ hg' hr => ⟨c, hIx c s X Y row hc hg' (hturn hr), (grownBy_keeps hg' (fun r e => (hr r e).2) hl rfl).trans hl, (grownBy_keeps hg' (fun r e => (hr r e).2) hk rfl).trans hk⟩)
    ?round ⟨hI1, hR1, hD1⟩).mono ?behind)
  case round =>
    rintro pre x post W hx ⟨hi, hl, hk⟩
    have hlt : B + 1 < W.heap.size := (Array.getElem?_eq_some_iff.1 hl).1
    have hy := run_yield (P := P) (args := encs x) hl (by rw [hrec]; exact hps x)
    refine ⟨_, _, _, _, hy, ?_⟩
    refine roundIn_of_wpIn (by rw [hrec]; exact hfn) ?_
    rw [show (rec .ready none).params = ps from by rw [hrec], show (rec .ready none).tmps = a.tmps from by rw [hrec], show (rec .ready none).assign = assign from by rw [hrec], show (rec .ready none).body = body from by rw [hrec]]
    refine hassign _ pre x post W _ hx hi (by omega) ?_
    intro a' V hkf hsm hax
    have hlV := hkf.same _ _ (by omega) hl rfl
    have hkV := hkf.same _ _ (Nat.le_refl _) hk rfl
    have hltV : B + 1 < V.heap.size := (Array.getElem?_eq_some_iff.1 hlV).1
    have hbr := run_beginRound (P := P) hlV (by rw [hrec])
    rw [eB] at hbr
    refine ⟨_, hbr, ?_⟩
    obtain ⟨V2, hV2⟩ : ∃ V2, V.putObj (B + 1) (.loop (rec .busy none)) = V2 := ⟨_, rfl⟩
    rw [hV2]
    have hl2 : V2.heap[B + 1]? = some (.loop (rec .busy none)) := by rw [← hV2]; exact World.putObj_heap_same hltV
    have hk2 : V2.heap[B]? = some (.deferred (some [])) := by rw [← hV2]; exact (World.putObj_heap_other (by omega)).trans hkV
    have hs2 : Same L V V2 := by rw [← hV2]; exact Same.putObj _ (fun k hk => by have := hL k hk; omega)
    have hax2 : Ax pre x a' V2 := by rw [← hV2]; exact (hAx pre x a').putObj (s := ()) _ hax (by omega) hlV rfl
    refine wpIn_mono (hbody _ pre x post a' V2 hx hax2 (by omega) ⟨_, hl2⟩) ?_
    -- how a round ends
    have fin : ∀ (jump : Option Code) (W3 : World), KeepsFrom B V2 W3 →
        (Instr.endRound (B + 1) jump).run P W3 = .ok (.bool jump.isNone) (W3.putObj (B + 1) (.loop (rec (if jump.isNone then .ready else .done) jump))) ∧
        W3.heap[B + 1]? = some (.loop (rec .busy none)) ∧
        (W3.putObj (B + 1) (.loop (rec (if jump.isNone then .ready else .done) jump))).heap[B + 1]? = some (.loop (rec (if jump.isNone then .ready else .done) jump)) ∧
        (W3.putObj (B + 1) (.loop (rec (if jump.isNone then .ready else .done) jump))).heap[B]? = some (.deferred (some [])) := fun jump W3 hk3 => by
      have hl3 := hk3.same _ _ (by omega) hl2 rfl
      have he := run_endRound (P := P) jump hl3
      rw [eP] at he
      exact ⟨he, hl3, World.putObj_heap_same (Array.getElem?_eq_some_iff.1 hl3).1, (World.putObj_heap_other (by omega)).trans (hk3.same _ _ (Nat.le_refl _) hk2 rfl)⟩
    rintro e a3 W3 hp
    cases e with
    | normal =>
      obtain ⟨hk3, hkp3, hi3⟩ := hp
      obtain ⟨hr, hl3, hl4, hk4⟩ := fin none W3 hk3
      exact ⟨_, _, hr, .inl ⟨rfl, ⟨hI.putObj _ hi3 (by omega) hl3 rfl, hl4, hk4⟩, ((hsm.trans hs2).trans hkp3).trans (Same.putObj _ (fun k hk => by have := hL k hk; omega))⟩⟩
    | ret =>
      obtain ⟨hk3, hi3⟩ := hp
      obtain ⟨hr, hl3, hl4, hk4⟩ := fin (some .ret) W3 hk3
      exact ⟨_, _, hr, .inr ⟨rfl, .ret, (hIx _).putObj _ hi3 (by omega) hl3 rfl, hl4, hk4⟩⟩
    | exit id =>
      obtain ⟨hk3, hi3⟩ := hp
      obtain ⟨hr, hl3, hl4, hk4⟩ := fin (some (.exit id)) W3 hk3
      exact ⟨_, _, hr, .inr ⟨rfl, .exit id, (hIx _).putObj _ hi3 (by omega) hl3 rfl, hl4, hk4⟩⟩
    | goto t =>
      obtain ⟨hk3, hi3⟩ := hp
      obtain ⟨hr, hl3, hl4, hk4⟩ := fin (some (.goto t)) W3 hk3
      exact ⟨_, _, hr, .inr ⟨rfl, .goto t, (hIx _).putObj _ hi3 (by omega) hl3 rfl, hl4, hk4⟩⟩
    | panic ch => exact hp.elim
    | outgrown => exact hp.elim
  case behind =>
    rintro e W2 ⟨⟨v, rfl⟩, ⟨hi, hl, hk⟩ | ⟨pre, hpre, c, hi, hl, hk⟩⟩
    · have he := run_endLoop (P := P) hl (by rw [hrec]; simp)
      refine ⟨_, _, he, ?_⟩
      rw [show (rec .ready none).pending = none from by rw [hrec]]
      exact hdone _ _ (Nat.le_refl _) (hI.putObj _ hi (by omega) hl rfl) ((World.putObj_heap_other (by omega)).trans hk)
    · have he := run_endLoop (P := P) hl (by rw [hrec]; simp)
      refine ⟨_, _, he, ?_⟩
      rw [show (rec .done (some c)).pending = some c from by rw [hrec]]
      exact hstop _ c pre _ (Nat.le_refl _) hpre ((hIx c).putObj _ hi (by omega) hl rfl) ((World.putObj_heap_other (by omega)).trans hk)

/-- A return behind one such loop. -/
theorem ret_mark {n : Nat} {P : Program} {fn : Func} {R : Ending → World → Prop} {tmps : Array Value} {D : Nat} {W : World} {v : Value} (hK : W.heap[D]? = some (.deferred (some [])))
    (hr : (results fn tmps).run P (W.putObj D (.deferred none)) = .ok v (W.putObj D (.deferred none))) (hR : R (.returned v) (W.putObj D (.deferred none))) :
    bodyPostM Fence.wide n P fn R .ret { tmps := tmps, defers := [{ target := .collected D, args := #[] }] } W :=
  ⟨by simp, .inl ⟨_, _, rfl, run_takeDeferred hK, v, hr, hR⟩⟩

/-! ### A region that draws its order, in a round: by the plain laws -/
def noDefers (ops : Array Oper) : Bool := ops.all fun o => match o.op with | .defer _ => false | _ => true
theorem noDefers_at {ops : Array Oper} (h : noDefers ops = true) {i : Nat} {o : Oper} (ho : ops[i]? = some o) : ∀ c, o.op ≠ .defer c := by
  intro c hc
  have := (Array.all_eq_true.1 h) i (Array.getElem?_eq_some_iff.1 ho).1
  rw [(Array.getElem?_eq_some_iff.1 ho).2, hc] at this
  cases this
theorem rowsIn_wide {n : Nat} {P : Program} {row : String} {args : Array Value} {w : World} {R : Value → World → Prop} (h : Rows P row args w R) : RowsIn Fence.wide n P row args w R :=
  fun c cs _ => let ⟨v, w', r, s⟩ := h c cs; ⟨v, w', r, stepsIn_wide.2 s⟩

section
variable {P : Program} {ops : Array Oper} {Q : Exit → Act → World → Prop} {l n : Nat}
theorem wpIn_of_wp {o : Oper} (hd : ∀ c, o.op ≠ .defer c) (hout : ∀ a w, ¬ Q .outgrown a w) {K K' : Act → World → Prop} (hK : ∀ a w, K a w → K' a w) {a : Act} {w : World} (h : o.wp P a w K Q ∨ (o.asks P a w ∧ LetsOut Q)) :
    o.wpIn (Fence.wide.inRound l) n P a w K' Q := by
  rcases h with h | ⟨_, a', w', h⟩
  case inr => exact (hout _ _ h).elim
  refine ⟨fun _ _ => trivial, ?_⟩
  rw [show o.semAt (Fence.wide.inRound l).round a.eval = execOp a.eval o from Oper.semAt_some l _ _ hd]
  revert h
  unfold Oper.wp Oper.upon Oper.uponIn
  cases (execOp a.eval o).run P w with
  | ok x w' =>
    cases x with
    | value v => exact hK _ _
    | skip => exact hK _ _
    | defer d => exact hK _ _
    | enter f args =>
      intro h
      refine ⟨fun h => by simp [wide_depth] at h, (callsIn_wide.2 (Calls.mono h ?_) : CallsIn Fence.wide _ _ _ _ _ _)⟩
      intro e w''
      cases e with
      | returned v => exact hK _ _
      | panicked ch => exact id
      | outgrown => exact id
    | row row args => exact fun h => ⟨fun h => by simp [wide_depth] at h, (rowsIn_wide h).mono fun v w'' => hK _ _⟩
    | _ => exact fun h => h.elim
  | halt x w' =>
    cases x with
    | panic v => exact id
    | _ => exact fun h => h.elim
theorem wpAnyIn_of_any (hd : noDefers ops = true) (hout : ∀ a w, ¬ Q .outgrown a w) {md : Region.Mode} : ∀ (fuel : Nat) (listed : Array Bool) (a : Act) (w : World), wpAny P md ops Q fuel listed a w → wpAnyIn (Fence.wide.inRound l) n P md ops Q fuel listed a w
  | 0, _, _, _, h => h
  | fuel + 1, listed, a, w, h => ⟨h.1, fun i hi => by
    have h2 := h.2 i hi
    unfold wpOp at h2
    unfold wpOpIn
    cases ho : ops[i]? with
    | none => rw [ho] at h2; exact wpAnyIn_of_any hd hout fuel _ _ _ h2
    | some o =>
      rw [ho] at h2
      simp only at h2 ⊢
      split
      · rename_i hw; rw [if_pos hw] at h2
        exact wpIn_of_wp (noDefers_at hd ho) hout (fun a w => wpAnyIn_of_any hd hout fuel _ a w) h2
      · rename_i hw; rw [if_neg hw] at h2
        exact ⟨fun _ _ => trivial, wpAnyIn_of_any hd hout fuel _ _ _ h2⟩⟩

/-- All but the last operations only read; the last ones come in one order. -/
theorem round_still_tail {id : Nat} {a : Act} {w : World} {os : List Oper} (k : Nat) (hm : P.follows .mixedOrders = true) (hB : Region.lexTailB .any os.toArray k = true) (hd : noDefers os.toArray = true) (hout : ∀ a w, ¬ Q .outgrown a w)
    (h : wpStill P os.toArray { w with drawn := w.drawn + 1 } (fun a' => wpList P os.toArray Q (os.drop k) a' { w with drawn := w.drawn + 1 }) (os.take k) a) : (Code.region id os.toArray true).wpIn (Fence.wide.inRound l) n P Q a w := by
  simp only [Region.lexTailB, Bool.and_eq_true, decide_eq_true_eq] at hB
  obtain ⟨⟨⟨⟨hsel, hn⟩, hs⟩, hc⟩, hlex⟩ := hB
  have hk : k < os.length := by simpa using hn
  have htl : (os.take k).length = k := by simp; omega
  have hdl : (os.drop k).length = os.toArray.size - k := by simp
  have inv0 : HeadInv .any os.toArray k (Array.replicate os.toArray.size false) :=
    ⟨by simp, fun j oj _ hl => (by rw [getD_replicate_false] at hl; cases hl), fun t _ ht => getD_in (by simpa using ht) (getD_replicate_false _ _)⟩
  have H := wpAnyL_lex (md := .any) (g := os.toArray.size - k) hsel hs hc hn (os.take k) 0 _ a (fun j hj => by
    have hj' : j < k := by rw [htl] at hj; exact hj
    simp [hj']) (by simpa using htl) inv0 (by rw [htl]; exact hlex) h
  refine wpIn_region_any hm (wpAnyIn_of_any hd hout _ _ _ _ ?_)
  have := wpAny_of_head (Q' := Q) (g := os.toArray.size - k) (fun listed a' hL => by
    have := wpAny_of_seq (md := .any) (Q' := Q) (os.drop k) k listed a' { w with drawn := w.drawn + 1 } (fun j => by simp [List.getElem?_drop]) (by rw [hdl]; exact hL.1) hL.2
    rwa [hdl] at this) _ _ _ H
  rw [htl, show k + (os.toArray.size - k) = os.toArray.size by omega] at this
  exact this
/-- All operations, calls too, only read. -/
theorem round_quiet {id : Nat} {a : Act} {w : World} {os : List Oper} (hm : P.follows .mixedOrders = true) (hB : Region.lexB .any os.toArray = true) (hd : noDefers os.toArray = true) (hout : ∀ a w, ¬ Q .outgrown a w)
    (h : wpQuiet P os.toArray (fun w' => ∃ n, w' = w.drewN n) (fun a' => ∀ w', (∃ n, w' = w.drewN n) → Q .normal a' w') os a) : (Code.region id os.toArray true).wpIn (Fence.wide.inRound l) n P Q a w := by
  simp only [Region.lexB, Bool.and_eq_true] at hB
  refine wpIn_region_any hm (wpAnyIn_of_any hd hout _ _ _ _ (wpAny_of_quiet (Q := fun a' => ∀ w', (∃ n, w' = w.drewN n) → Q .normal a' w') (fun _ w' hw' h => h w' hw') _ _ _ _ ⟨1, rfl⟩ ?_))
  have := wpAnyQ_lex (C := fun w' => ∃ n, w' = w.drewN n) (md := .any) hB.1 os 0 (Array.replicate os.toArray.size false) a (by simp) (by simpa using hB.2) h
  simpa using this
/-- In whatever order. -/
theorem round_any {id : Nat} {a : Act} {w : World} (hm : P.follows .mixedOrders = true) (hd : noDefers ops = true) (hout : ∀ a w, ¬ Q .outgrown a w)
    (h : wpAny P .any ops Q ops.size (Array.replicate ops.size false) a { w with drawn := w.drawn + 1 }) : (Code.region id ops true).wpIn (Fence.wide.inRound l) n P Q a w :=
  wpIn_region_any hm (wpAnyIn_of_any hd hout _ _ _ _ h)
/-- A region with one order, in a round. -/
theorem round_list {id : Nat} {a : Act} {w : World} {os : List Oper} (hd : noDefers os.toArray = true) (hout : ∀ a w, ¬ Q .outgrown a w) (h : wpList P os.toArray Q os a w) : (Code.region id os.toArray false).wpIn (Fence.wide.inRound l) n P Q a w := by
  refine wpIn_region_list ?_
  have key : ∀ (rest : List Oper), (∀ o ∈ rest, ∀ c, o.op ≠ .defer c) → ∀ a w, wpList P os.toArray Q rest a w → wpListIn (Fence.wide.inRound l) n P os.toArray Q rest a w := by
    intro rest
    induction rest with
    | nil => exact fun _ _ _ h => h
    | cons o rest ih =>
      intro hr a w h
      unfold wpList at h
      unfold wpListIn
      split
      · rename_i hw; rw [if_pos hw] at h
        exact wpIn_of_wp (hr o (by simp)) hout (fun a w => ih (fun o ho => hr o (by simp [ho])) a w) h
      · rename_i hw; rw [if_neg hw] at h
        exact ⟨fun _ _ => trivial, ih (fun o ho => hr o (by simp [ho])) _ _ h⟩
  refine key _ (fun o ho => ?_) a w (by simpa using h)
  obtain ⟨i, hi⟩ := List.getElem?_of_mem ho
  exact noDefers_at hd (i := i) (by simpa using hi)
end

/-! ### range -/
theorem range_prefix {m n : Nat} (h : m ≤ n) : List.range m <+: List.range n := by
  have : List.range m = (List.range n).take m := by rw [List.take_range, Nat.min_eq_left h]
  rw [this]; exact List.take_prefix _ _
/-- The front of a range and the element behind it. -/
theorem range_split {n x : Nat} {pre post : List Nat} (h : List.range n = pre ++ x :: post) : pre = List.range x ∧ x < n := by
  have hl : pre.length < n := by have := congrArg List.length h; simp at this; omega
  have hx : (List.range n)[pre.length]? = some x := by rw [h]; simp
  rw [List.getElem?_range hl] at hx
  obtain rfl : pre.length = x := by simpa using hx
  refine ⟨?_, hl⟩
  have h1 : (List.range n).take pre.length = pre := by rw [h]; simp
  rw [List.take_range, Nat.min_eq_left (by omega)] at h1
  exact h1.symm
theorem range_cut {n x : Nat} (h : x < n) : List.range n = List.range x ++ x :: List.range' (x + 1) (n - 1 - x) := by
  have h1 := (List.take_append_drop x (List.range n)).symm
  rw [List.take_range, Nat.min_eq_left (by omega), List.range_eq_range' (n := n), List.drop_range', show n - x = (n - 1 - x) + 1 from by omega, List.range'_succ] at h1
  rw [← List.range_eq_range'] at h1
  simpa using h1
theorem range_snoc (x : Nat) : List.range x ++ [x] = List.range (x + 1) := List.range_succ.symm
end Go.Proofs.Ytbjogekhedglgaa
