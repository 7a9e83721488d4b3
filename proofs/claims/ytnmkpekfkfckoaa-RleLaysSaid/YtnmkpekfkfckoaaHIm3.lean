import Derived.Test.YtnmkpekfkfckoaaHPx2
import Derived.Test.YtnmkpekfkfckoaaHZE
import Derived.Test.YtnmkpekfkfckoaaHRow5
import Derived.Test.YtnmkpekfkfckoaaHEw7
/- Package pixel: lists of pixels; the document's Same. -/
namespace Go.Proofs.Ytnmkpekfkfckoaa
set_option linter.unusedSimpArgs false
set_option linter.unusedVariables false
open Go.RowKit EV
open SX (Wr Tv Qu Rm Sh Is conjP eqs_iff eqs_false)
open EW (PlL PlT PlV PlVs LfV Mm Bt Opn GV)
set_option maxRecDepth 20000
abbrev Px.vals (p : Px) : List Value := [.int .u32 p.z, .int .i64 p.o, .int .i64 p.t, .int .u32 p.c]
def pvs (l : List Px) : List Value := l.flatMap Px.vals
theorem pvs_length : ∀ l : List Px, (pvs l).length = l.length * 4
  | [] => rfl
  | p :: l => by
    have := pvs_length l
    simp only [pvs, List.flatMap_cons, List.length_append, List.length_cons] at this ⊢
    rw [this]; simp only [Px.vals, List.length_cons, List.length_nil]; omega
theorem pvs_cut : ∀ (l : List Px) (j : Nat) (h : j < l.length), ((pvs l).drop (j * 4)).take 4 = (l[j]).vals
  | p :: l, 0, _ => rfl
  | p :: l, j + 1, h => by
    have := pvs_cut l j (by simpa using h)
    rw [show (j + 1) * 4 = j * 4 + 1 + 1 + 1 + 1 by omega]
    simpa [pvs, Px.vals] using this
theorem pvs_put : ∀ (l : List Px) (j : Nat) (p : Px), j < l.length → putL (j * 4) p.vals (pvs l) = pvs (l.set j p)
  | q :: l, 0, p, _ => rfl
  | q :: l, j + 1, p, h => by
    have := pvs_put l j p (by simpa using h)
    rw [show (j + 1) * 4 = j * 4 + 1 + 1 + 1 + 1 by omega]
    simp only [pvs, List.flatMap_cons, List.set_cons_succ] at this ⊢
    simp only [Px.vals, List.cons_append, List.nil_append, putL]
    exact congrArg _ (congrArg _ (congrArg _ (congrArg _ this)))
instance (l : List Px) : EW.RowV (pvs l) 4 l.length (fun j => (l.getD j Px.zero).vals) := ⟨pvs_length l, fun j h => by
  rw [pvs_cut l j h]; simp [List.getD_eq_getElem?_getD, List.getElem?_eq_getElem h]⟩
/-- Two lists of pixels in memory. -/
abbrev W2 (o o' : Bool) (xs ys : List Px) : Ws := [(.l 0, .l true), (.b 0, .b (.w o (pvs xs))), (.l 1, .l true), (.b 1, .b (.w o' (pvs ys)))]
theorem Px.ext4 {a b : Px} (h : a.z = b.z ∧ a.o = b.o ∧ a.t = b.t ∧ a.c = b.c) : a = b := by
  obtain ⟨z, o, t, c⟩ := a
  obtain ⟨z', o', t', c'⟩ := b
  obtain ⟨rfl, rfl, rfl, rfl⟩ := h; rfl
theorem list_of_getD {α : Type} {d : α} {xs ys : List α} (h : xs.length = ys.length) (hp : ∀ q, q < xs.length → xs.getD q d = ys.getD q d) : xs = ys := by
  refine List.ext_getElem h fun i h1 h2 => ?_
  have := hp i h1
  simpa [List.getD_eq_getElem?_getD, List.getElem?_eq_getElem h1, List.getElem?_eq_getElem h2] using this
theorem less_succ {p : Nat → Prop} {i : Nat} (h : ∀ q, q < i → p q) (hi : p i) : ∀ q, q < i + 1 → p q := fun q hq => by
  rcases Nat.lt_or_ge q i with h1 | h1
  · exact h q h1
  · rw [show q = i by omega]; exact hi
end Go.Proofs.Ytnmkpekfkfckoaa
/- Pixels that come in. -/
namespace Go.Proofs.Ytnmkpekfkfckoaa
open Go.RowKit Go.ChangeShapes Go.WideShapes EV
set_option maxRecDepth 20000
abbrev Px.wf (p : Px) : Prop := (0 ≤ p.z ∧ p.z < 4294967296) ∧ (-9223372036854775808 ≤ p.o ∧ p.o ≤ 9223372036854775807) ∧ (-9223372036854775808 ≤ p.t ∧ p.t ≤ 9223372036854775807) ∧ (0 ≤ p.c ∧ p.c < 4294967296)
theorem px_of_rows : ∀ {rows : List (List Value)}, (∀ s ∈ rows, Fit [.i .u32, .i .i64, .i .i64, .i .u32] s) → ∃ l : List Px, l.length = rows.length ∧ rows.flatten = pvs l ∧ ∀ p ∈ l, p.wf
  | [], _ => ⟨[], rfl, rfl, fun x hx => by cases hx⟩
  | r :: rows, h => by
    obtain ⟨l, h1, h2, h3⟩ := px_of_rows (rows := rows) (fun s hs => h s (by simp [hs]))
    obtain ⟨z, _, rfl, a0, a1, o, _, rfl, b0, b1, t, _, rfl, c0, c1, c, _, rfl, d0, d1, rfl⟩ := h r (by simp)
    refine ⟨⟨z, o, t, c⟩ :: l, by simp [h1], by rw [List.flatten_cons, h2]; rfl, fun x hx => ?_⟩
    rcases List.mem_cons.1 hx with rfl | hx
    · exact ⟨rg_u32 ⟨a0, a1⟩, rg_i64 ⟨b0, b1⟩, rg_i64 ⟨c0, c1⟩, rg_u32 ⟨d0, d1⟩⟩
    · exact h3 x hx
theorem pvs_one (l : List Px) : ∀ x ∈ pvs l, x.oneCell' = true := by
  intro x hx
  simp only [pvs, List.mem_flatMap] at hx
  obtain ⟨p, _, hx⟩ := hx
  simp only [Px.vals, List.mem_cons, List.not_mem_nil, or_false] at hx
  rcases hx with rfl | rfl | rfl | rfl <;> rfl
end Go.Proofs.Ytnmkpekfkfckoaa
/- Walking over named blocks: branches that come together. No program in sight. -/
namespace Go.Proofs.Ytnmkpekfkfckoaa.EW
set_option linter.unusedSectionVars false
set_option linter.unusedSimpArgs false
set_option linter.unusedVariables false
open Go.RowKit EV
section
variable {c : Ctx} {F : Fence} {nn : Nat} {Q : Exit → Act → World → Prop} {σ : Sf} {sup : List Nat}
/-- A goal that waits: no step of a walk fits it. -/
structure Park (p : Prop) : Prop where
  go : p
theorem parkK {F : Fence} {m : Nat} {P : Program} {f : Func} {R : Ending → World → Prop} {x : Exit} (h : Park (KX c (bodyPostM F m P f R x) σ sup)) : KX c (bodyPostM F m P f R x) σ sup := h.go
end
end Go.Proofs.Ytnmkpekfkfckoaa.EW
/- image: Set, Same; the document's. -/
namespace Go.Proofs.Ytnmkpekfkfckoaa
set_option linter.unusedSimpArgs false
set_option linter.unusedVariables false
open Go.RowKit EV
open SX (Wr Tv Qu Rm Sh Is conjP eqs_iff eqs_false)
open EW (PlL PlT PlV PlVs LfV Mm Bt Opn GV YT lpOf nums)
set_option maxRecDepth 20000
theorem pvs_at (l : List Px) (j k : Nat) (h : j < l.length) (hk : k < 4) : (pvs l)[j * 4 + k]? = (l.getD j Px.zero).vals[k]? := by
  have := congrArg (fun x => x[k]?) (pvs_cut l j h)
  rw [List.getElem?_take, if_pos hk, List.getElem?_drop] at this
  rw [this, List.getD_eq_getElem?_getD, List.getElem?_eq_getElem h]
  rfl
instance (l : List Px) (j : Nat) : EW.GetC ((pvs l).map C.v) (j * 4) (.v (.int .u32 (l.getD j Px.zero).z)) (j < l.length) := ⟨fun h => by
  rw [List.getElem?_map, ← Nat.add_zero (j * 4), pvs_at l j 0 h (by omega)]; rfl⟩
theorem take_next {l : List Px} {i : Nat} (h : i < l.length) : l.take (i + 1) = l.take i ++ [l.getD i Px.zero] := by
  rw [List.take_add_one, List.getD_eq_getElem?_getD, List.getElem?_eq_getElem h]; rfl
noncomputable def WP (o : Bool) (l : List Px) : Ws := [(.l 0, .l true), (.b 0, .b (.w o (pvs l)))]
end Go.Proofs.Ytnmkpekfkfckoaa
/- image: Same; the document's. -/
namespace Go.Proofs.Ytnmkpekfkfckoaa
set_option linter.unusedSimpArgs false
set_option linter.unusedVariables false
open Go.RowKit EV
open SX (Wr Tv Qu Rm Sh Is conjP eqs_iff eqs_false)
open EW (PlL PlT PlV PlVs LfV Mm Bt Opn GV YT lpOf nums)
set_option maxRecDepth 20000
theorem rsame13 (o o' : Bool) (xs ys : List Px) (hxs : xs.length ≤ 10000) (hys : ys.length ≤ 10000) : CT Try.prog 19 [.c (.g 0 0 xs.length xs.length 4), .c (.g 1 0 ys.length ys.length 4)] (upd EW.emp (W2 o o' xs ys)) 2 2 (.c (.v (.bool (decide (xs = ys))))) (upd (upd EW.emp (W2 o o' xs ys)) []) := by
  refine EW.ctEnter EW.sup1 Try.func19 rfl Try.ntmps19 rfl EW.nlP ?_; intro w0 tch ini R hR
  all_goals try (refine EW.nm ?_)
  all_goals try (refine EW.eReg (id := 0) ?_; refine EW.eAssign ?_; refine EW.eEnd ?_; (try refine EW.nm ?_))
  all_goals try (refine EW.eReg (id := 1) ?_; refine EW.eMove ?_; (first | refine EW.eLenS ?_ | refine EW.eLenG ?_ | refine EW.eLenN ?_); refine EW.eMove ?_; (first | refine EW.eLenS ?_ | refine EW.eLenG ?_ | refine EW.eLenN ?_); refine EW.eNeq ?_; refine EW.eEnd ?_; (try refine EW.nm ?_))
  all_goals try (first | refine EW.eYes (x := .tmp 10) ?_ | refine EW.eNo (x := .tmp 10) ?_ | (refine EW.eCond (x := .tmp 10) ?_ ?_ <;> (intro hb hb'; (try dsimp only at hb'); (try (exfalso; first | omega | with_reducible exact absurd rfl hb')))))
  all_goals try (refine EW.nm ?_)
  all_goals try (refine EW.eReg (id := 2) ?_; refine EW.eAssign ?_; refine EW.eEnd ?_; (try refine EW.nm ?_))
  all_goals try (with_reducible refine EW.parkK ?_)
  all_goals try (refine EW.eReg (id := 3) ?_; refine EW.eAssign ?_; refine EW.eEnd ?_; (try refine EW.nm ?_))
  all_goals first | (fail_if_success (refine EW.eUnroll 1 ?_)) | (refine EW.eLoopD [4, 5, 11, 12, 13, 14, 15, 16, 17, 18, 19, 20, 21, 22, 23, 24, 25] 1000000 (fun j : {i : Nat // i ≤ xs.length ∧ xs.length = ys.length ∧ ∀ q, q < i → xs.getD q Px.zero = ys.getD q Px.zero} => [(.t 5, .v (.c (.v (.int .i64 j.1))))]) (fun j => xs.length - j.1) (⟨0, by omega, by omega, fun q h => absurd h (by omega)⟩) (by ((repeat (first | exact EW.subW.nil | refine EW.subW.cons rfl ?_ | refine EW.subW.conv rfl ?_)); (first | done | fail))) ?_; rintro hcl4 ⟨i, hi, hl, hp⟩; (try dsimp only))
  all_goals try (refine EW.nm ?_)
  all_goals try (refine EW.eReg (id := 4) ?_; refine EW.eMove ?_; refine EW.eMove ?_; (first | refine EW.eLenS ?_ | refine EW.eLenG ?_ | refine EW.eLenN ?_); refine EW.eLss ?_; refine EW.eEnd ?_; (try refine EW.nm ?_))
  all_goals try (first | refine EW.eYes (x := .tmp 14) ?_ | refine EW.eNo (x := .tmp 14) ?_ | (refine EW.eCond (x := .tmp 14) ?_ ?_ <;> (intro hb hb'; (try dsimp only at hb'); (try (exfalso; first | omega | with_reducible exact absurd rfl hb')))))
  all_goals try (refine EW.nm ?_)
  all_goals try (refine EW.eReg (id := 6) ?_; refine EW.eMove ?_; refine EW.eMove ?_; (first | refine EW.eIndexAddrS (z := 4) ?_ | refine EW.eIndexAddrG (z := 4) ?_); refine EW.eLoadA (k := 4) ?_; refine EW.eMove ?_; refine EW.eMove ?_; (first | refine EW.eIndexAddrS (z := 4) ?_ | refine EW.eIndexAddrG (z := 4) ?_); refine EW.eLoadA (k := 4) ?_; refine EW.eNeqA ?_; refine EW.eDraw ?_; (try refine EW.nm ?_))
  all_goals try (first | refine EW.eYes (x := .tmp 25) ?_ | refine EW.eNo (x := .tmp 25) ?_ | (refine EW.eCond (x := .tmp 25) ?_ ?_ <;> (intro hb hb'; (try dsimp only at hb'); (try (exfalso; first | omega | with_reducible exact absurd rfl hb')))))
  all_goals try (refine EW.nm ?_)
  all_goals try (refine EW.eReg (id := 7) ?_; refine EW.eAssign ?_; refine EW.eEnd ?_; (try refine EW.nm ?_))
  all_goals try (with_reducible refine EW.parkK ?_)
  all_goals try (refine EW.eReg (id := 5) ?_; refine EW.eMove ?_; refine EW.eAdd ?_; refine EW.eAssign ?_; refine EW.eEnd ?_; (try refine EW.nm ?_))
  all_goals first | (fail_if_success (with_reducible refine EW.isLater ?_)) | (refine EW.eLaterD (⟨i + 1, by omega, hl, less_succ hp (Px.ext4 hb')⟩) (by dsimp only; omega) (by ((repeat (first | exact EW.subW.nil | refine EW.subW.cons rfl ?_ | refine EW.subW.conv rfl ?_)); (first | done | fail))) hcl4)
  all_goals try (refine EW.nm ?_)
  all_goals try (refine EW.eReg (id := 8) ?_; refine EW.eAssign ?_; refine EW.eEnd ?_; (try refine EW.nm ?_))
  all_goals try (with_reducible refine EW.parkK ?_)
  all_goals try (refine EW.Park.mk ?_)
  all_goals (refine EW.eLeaveN [] hR EW.orP (by rfl) (by rfl) ?_ ?_ rfl rfl EW.nlP rfl rfl; rotate_left 1; (· ((repeat (first | exact EW.atE.nil | refine EW.atE.lt rfl ?_ | refine EW.atE.lf ?_ | refine EW.atE.b rfl EW.SameB.refl ?_ | (refine EW.atE.b rfl ?_ ?_; rotate_left 1))))))
  all_goals refine congrArg (fun b => V.c (C.v (Value.bool b))) ?_
  all_goals first | exact (decide_eq_true (list_of_getD hl fun q hq => hp q (by omega))).symm | (refine (decide_eq_false fun h => ?_).symm; subst h; omega) | (refine (decide_eq_false fun h => ?_).symm; subst h; exact hb' ⟨rfl, rfl, rfl, rfl⟩)
end Go.Proofs.Ytnmkpekfkfckoaa
/- image: sized, whole; the document's. -/
