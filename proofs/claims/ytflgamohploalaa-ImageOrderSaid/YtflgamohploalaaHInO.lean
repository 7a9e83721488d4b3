/- ImageOrder: the walk. -/
import Derived.Test.YtflgamohploalaaHInQ
import Derived.Test.YtflgamohploalaaHPkH
namespace Go.Proofs.Ytflgamohploalaa
set_option linter.unusedSectionVars false
set_option linter.unusedSimpArgs false
set_option linter.unusedVariables false
open Go.RowKit Go.ChangeShapes Go.WideShapes EV
open SX (Wr Tv Qu Rm Sh Is conjP eqs_iff eqs_false)
open EW (PlL PlT PlV PlVs LfV Mm Bt Opn GV YT lpOf nums)
set_option maxRecDepth 20000
theorem ok_at {w h : Int} {l : List Fg} (hl : ∀ f ∈ l, fgOk w h f) : ∀ i, i < l.length → fgOk w h (l.getD i Fg.zero) := fun i hi => by
  rw [List.getD_eq_getElem?_getD, List.getElem?_eq_getElem hi]; exact hl _ (List.getElem_mem hi)
theorem ok_mem {w h : Int} {l : List Fg} (hl : ∀ i, i < l.length → fgOk w h (l.getD i Fg.zero)) : ∀ f ∈ l, fgOk w h f := fun f hf => by
  obtain ⟨i, hi, rfl⟩ := List.getElem_of_mem hf
  have := hl i hi
  rwa [List.getD_eq_getElem?_getD, List.getElem?_eq_getElem hi] at this
theorem fgs_add1 (l : List Fg) (f : Fg) : fgs l ++ [.int .i64 f.x, .int .i64 f.y, .int .u32 f.p.z, .int .i64 f.p.o, .int .i64 f.p.t, .int .u32 f.p.c] = fgs (l ++ [f]) := by simp [fgs, Fg.vals]
theorem fgs_add2 (l : List Fg) (f : Fg) : fgs l ++ [.int .i64 f.x, .int .i64 f.y, .int .u32 f.p.z, .int .i64 f.p.o, .int .i64 f.p.t, .int .u32 f.p.c, .int .i64 f.x, .int .i64 f.y, .int .u32 f.p.z, .int .i64 f.p.o, .int .i64 f.p.t, .int .u32 f.p.c] = fgs (l ++ [f, f]) := by simp [fgs, Fg.vals]
/-- How far the fragments are told into the turned list and the four parts. -/
structure Ord (l : List Fg) (c mB m0 m1 m2 m3 : Nat) (B P0 P1 P2 P3 : List Fg) : Prop where
  hc : c ≤ l.length
  lB : B.length = mB
  bB : mB = 2 * c
  l0 : P0.length = m0
  l1 : P1.length = m1
  l2 : P2.length = m2
  l3 : P3.length = m3
  s : m0 + m1 + m2 + m3 = c
  eB : ∀ f, f ∈ B ↔ f ∈ l.drop (l.length - c)
  eP : ∀ f, (f ∈ P0 ∨ f ∈ P1 ∨ f ∈ P2 ∨ f ∈ P3) ↔ f ∈ l.drop (l.length - c)
theorem Ord.start (l : List Fg) : Ord l 0 0 0 0 0 0 [] [] [] [] [] := ⟨by omega, rfl, rfl, rfl, rfl, rfl, rfl, rfl, by simp, by simp⟩
section
variable {l : List Fg} {c mB m0 m1 m2 m3 d : Nat} {B P0 P1 P2 P3 : List Fg} (o : Ord l c mB m0 m1 m2 m3 B P0 P1 P2 P3) (h : c < l.length) (hd : l.length - 1 - c = d)
include o h hd
theorem ord_mem (f : Fg) : f ∈ l.drop (l.length - (c + 1)) ↔ (f = l.getD d Fg.zero ∨ f ∈ l.drop (l.length - c)) := by
  have e1 : l.length - (c + 1) = d := by omega
  have e2 : l.length - c = d + 1 := by omega
  rw [e1, e2, List.drop_eq_getElem_cons (show d < l.length by omega), List.mem_cons, List.getD_eq_getElem?_getD, List.getElem?_eq_getElem (show d < l.length by omega)]
  rfl
theorem ord_B (f : Fg) : f ∈ B ++ [l.getD d Fg.zero, l.getD d Fg.zero] ↔ f ∈ l.drop (l.length - (c + 1)) := by
  rw [ord_mem o h hd f, List.mem_append, o.eB f]
  simp only [List.mem_cons, List.not_mem_nil, or_false, or_self]
  exact Or.comm
theorem Ord.n0 : Ord l (c + 1) (mB + 2) (m0 + 1) m1 m2 m3 (B ++ [l.getD d Fg.zero, l.getD d Fg.zero]) (P0 ++ [l.getD d Fg.zero]) P1 P2 P3 := by
  have := o.bB; have := o.s
  refine ⟨by omega, by rw [List.length_append, o.lB]; rfl, by omega, by rw [List.length_append, o.l0]; rfl, o.l1, o.l2, o.l3, by omega, ord_B o h hd, fun f => ?_⟩
  rw [ord_mem o h hd f, ← o.eP f, List.mem_append, List.mem_singleton]
  constructor <;> (intro hx; rcases hx with hx | hx | hx <;> simp_all) <;> (rcases hx with hx | hx <;> simp_all)
theorem Ord.n1 : Ord l (c + 1) (mB + 2) m0 (m1 + 1) m2 m3 (B ++ [l.getD d Fg.zero, l.getD d Fg.zero]) P0 (P1 ++ [l.getD d Fg.zero]) P2 P3 := by
  have := o.bB; have := o.s
  refine ⟨by omega, by rw [List.length_append, o.lB]; rfl, by omega, o.l0, by rw [List.length_append, o.l1]; rfl, o.l2, o.l3, by omega, ord_B o h hd, fun f => ?_⟩
  rw [ord_mem o h hd f, ← o.eP f, List.mem_append, List.mem_singleton]
  grind
theorem Ord.n2 : Ord l (c + 1) (mB + 2) m0 m1 (m2 + 1) m3 (B ++ [l.getD d Fg.zero, l.getD d Fg.zero]) P0 P1 (P2 ++ [l.getD d Fg.zero]) P3 := by
  have := o.bB; have := o.s
  refine ⟨by omega, by rw [List.length_append, o.lB]; rfl, by omega, o.l0, o.l1, by rw [List.length_append, o.l2]; rfl, o.l3, by omega, ord_B o h hd, fun f => ?_⟩
  rw [ord_mem o h hd f, ← o.eP f, List.mem_append, List.mem_singleton]
  grind
theorem Ord.n3 : Ord l (c + 1) (mB + 2) m0 m1 m2 (m3 + 1) (B ++ [l.getD d Fg.zero, l.getD d Fg.zero]) P0 P1 P2 (P3 ++ [l.getD d Fg.zero]) := by
  have := o.bB; have := o.s
  refine ⟨by omega, by rw [List.length_append, o.lB]; rfl, by omega, o.l0, o.l1, o.l2, by rw [List.length_append, o.l3]; rfl, by omega, ord_B o h hd, fun f => ?_⟩
  rw [ord_mem o h hd f, ← o.eP f, List.mem_append, List.mem_singleton]
  grind
end
theorem rm4 {u r : Int} (h0 : 0 ≤ u) (h : u % 4 = r) : Rm u 4 r := ⟨by rw [Int.tmod_eq_emod_of_nonneg h0, h]⟩
theorem by_at {l : List Int} (hb : By l) {i : Nat} (h : i < l.length) : 0 ≤ l.getD i 0 ∧ l.getD i 0 < 256 := by
  rw [List.getD_eq_getElem?_getD, List.getElem?_eq_getElem h]; exact hb _ (List.getElem_mem h)
theorem order_tail {w h : Int} {xs : List Px} {l P0 P1 P2 P3 : List Fg} (hx : imOk w h xs) (hl : ∀ f ∈ l, fgOk w h f) (he : ∀ f, (f ∈ P0 ∨ f ∈ P1 ∨ f ∈ P2 ∨ f ∈ P3) ↔ f ∈ l) (h0 : P0.length ≤ 1000) (h1 : P1.length ≤ 1000) (h2 : P2.length ≤ 1000) (h3 : P3.length ≤ 1000) :
    ∃ rp A0 A1 A2 A3 S1 S2 S3 : List Px, NewR 29 w h w h rp 0 ∧ LayR 35 true true rp P0 w h w h A0 0 ∧ LayR 35 true true rp P1 w h w h A1 0 ∧ LayR 35 true true rp P2 w h w h A2 0 ∧ LayR 35 true true rp P3 w h w h A3 0 ∧ MergeR 37 true false A0 xs w h w h w h S1 0 ∧ MergeR 37 true true A1 S1 w h w h w h S2 0 ∧ MergeR 37 true true A2 S2 w h w h w h S3 0 ∧ MergeR 37 true true A3 S3 w h w h w h (lays w xs l) 0 := by
  have hrp : imOk w h (List.replicate xs.length pE) := im_rep hx.1 hx.2.1
  have g0 : ∀ f ∈ P0, fgOk w h f := fun f h => hl f ((he f).1 (.inl h))
  have g1 : ∀ f ∈ P1, fgOk w h f := fun f h => hl f ((he f).1 (.inr (.inl h)))
  have g2 : ∀ f ∈ P2, fgOk w h f := fun f h => hl f ((he f).1 (.inr (.inr (.inl h))))
  have g3 : ∀ f ∈ P3, fgOk w h f := fun f h => hl f ((he f).1 (.inr (.inr (.inr h))))
  have a0 := im_lays hrp g0
  have a1 := im_lays hrp g1
  have a2 := im_lays hrp g2
  have a3 := im_lays hrp g3
  have b0 := im_near a0 hx
  have b1 := im_near a1 b0
  have b2 := im_near a2 b1
  have hM := imerge_y true true _ _ w h a3 b2
  rw [four_parts hx rfl hl he] at hM
  exact ⟨_, _, _, _, _, _, _, _, inew_y w h xs.length hx.1 hx.2.1, ilay_y true true _ P0 w h hrp h0 (ok_at g0), ilay_y true true _ P1 w h hrp h1 (ok_at g1), ilay_y true true _ P2 w h hrp h2 (ok_at g2), ilay_y true true _ P3 w h hrp h3 (ok_at g3), imerge_y true false _ xs w h a0 hx, imerge_y true true _ _ w h a1 b0, imerge_y true true _ _ w h a2 b1, hM⟩
end Go.Proofs.Ytflgamohploalaa
