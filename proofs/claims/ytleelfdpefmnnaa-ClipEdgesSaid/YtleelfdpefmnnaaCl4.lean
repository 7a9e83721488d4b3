/- ClipEdges: the walk. -/
import Derived.Test.YtleelfdpefmnnaaCl3
namespace Go.Proofs.Ytleelfdpefmnnaa
set_option linter.unusedSimpArgs false
set_option linter.unusedVariables false
open Go.RowKit EV
open SX (Wr Tv Qu Rm Sh Is conjP eqs_iff eqs_false)
open EW (PlL PlT PlV PlVs LfV Mm Bt Opn GV nums)
set_option maxRecDepth 20000
theorem rm_is {a b r : Int} (h : a.tmod b = r) : Rm a b r := ⟨h⟩
theorem dst_ok (p x y z q : Int) (p0 : 0 ≤ p) (p1 : p < 7) (h : Sm4 x y z q) : DST p (V4 x y z q) (dsV p x y z q) 0 := fun w => by
  have := cDist p x y z q w p0 p1
  rwa [if_pos h, if_pos h] at this
theorem dst_no (p x y z q : Int) (p0 : 0 ≤ p) (p1 : p < 7) (h : ¬ Sm4 x y z q) : DST p (V4 x y z q) 0 90 := fun w => by
  have := cDist p x y z q w p0 p1
  rwa [if_neg h, if_neg h] at this
theorem crs_pos (p a0 a1 a2 a3 b0 b1 b2 b3 : Int) (p0 : 0 ≤ p) (p1 : p < 7) (ha : Sm4 a0 a1 a2 a3) (hB : Sm4 b0 b1 b2 b3) (P Q : Int) (hP : dsV p a0 a1 a2 a3 = P) (hQ : dsV p b0 b1 b2 b3 = Q) (h0 : 0 ≤ P) (h1 : Q < 0) :
    CRS p (V4 a0 a1 a2 a3) (V4 b0 b1 b2 b3) (V4 (a0 + cq (b0 - a0) P (P - Q)) (a1 + cq (b1 - a1) P (P - Q)) (a2 + cq (b2 - a2) P (P - Q)) (a3 + cq (b3 - a3) P (P - Q))) 0 :=
  Cross_pos p _ _ _ _ _ _ _ _ P Q _ _ _ _ (hP ▸ dst_ok p _ _ _ _ p0 p1 ha) (hQ ▸ dst_ok p _ _ _ _ p0 p1 hB) h0 h1 fun w => ccross p _ _ _ _ _ _ _ _ P Q w ha hB hP hQ h0 h1
theorem crs_neg (p a0 a1 a2 a3 b0 b1 b2 b3 : Int) (p0 : 0 ≤ p) (p1 : p < 7) (ha : Sm4 a0 a1 a2 a3) (hB : Sm4 b0 b1 b2 b3) (P Q : Int) (hP : dsV p a0 a1 a2 a3 = P) (hQ : dsV p b0 b1 b2 b3 = Q) (h0 : 0 ≤ P) (h1 : Q < 0) :
    CRS p (V4 b0 b1 b2 b3) (V4 a0 a1 a2 a3) (V4 (a0 + cq (b0 - a0) P (P - Q)) (a1 + cq (b1 - a1) P (P - Q)) (a2 + cq (b2 - a2) P (P - Q)) (a3 + cq (b3 - a3) P (P - Q))) 0 :=
  Cross_neg p _ _ _ _ _ _ _ _ Q P _ _ _ _ (hQ ▸ dst_ok p _ _ _ _ p0 p1 hB) (hP ▸ dst_ok p _ _ _ _ p0 p1 ha) h1 h0 fun w => ccross p _ _ _ _ _ _ _ _ P Q w ha hB hP hQ h0 h1
theorem calive (w : World) : Calls Try.prog 9 #[] w fun e w' => e = .returned (.bool true) ∧ Below w.heap.size w w' := by
  have h1 : DST 0 (V4 0 0 0 4096) 0 0 := dst_ok 0 0 0 0 4096 (by omega) (by omega) (by omega)
  have h2 : DST 4 (V4 5 0 0 2) (-1) 0 := dst_ok 4 5 0 0 2 (by omega) (by omega) (by omega)
  have h3 : CRS 1 (V4 9 0 1 1) (V4 0 0 (-2) 1) (V4 6 0 0 1) 0 := crs_pos 1 9 0 1 1 0 0 (-2) 1 (by omega) (by omega) (by omega) (by omega) 1 (-2) rfl rfl (by omega) (by omega)
  refine EW.eEnter Try.func9 rfl Try.ntmps9 ?_
  all_goals try (refine EW.nm ?_)
  all_goals try ((first | refine EW.eRegL (id := 0) ?_ | refine EW.eReg (id := 0) ?_); refine EW.eAssign ?_; refine EW.eEnd ?_; (try refine EW.nm ?_))
  all_goals try ((first | refine EW.eRegL (id := 1) ?_ | refine EW.eReg (id := 1) ?_); refine EW.eBuild (place := fun i => some (i * 1, 1)) ?_; (first | refine EW.eCall Try.call11 (fun w => h1 w) ?_ | refine EW.eCall Try.call11 (fun w => h2 w) ?_); refine EW.eMove ?_; (first | refine EW.eExtC ?_ | refine EW.eExtA ?_); (first | refine EW.eExtC ?_ | refine EW.eExtA ?_); refine EW.eAssign ?_; refine EW.eAssign ?_; refine EW.eEnd ?_; (try refine EW.nm ?_))
  all_goals try ((first | refine EW.eRegL (id := 2) ?_ | refine EW.eReg (id := 2) ?_); refine EW.eBuild (place := fun i => some (i * 1, 1)) ?_; (first | refine EW.eCall Try.call11 (fun w => h1 w) ?_ | refine EW.eCall Try.call11 (fun w => h2 w) ?_); refine EW.eMove ?_; (first | refine EW.eExtC ?_ | refine EW.eExtA ?_); (first | refine EW.eExtC ?_ | refine EW.eExtA ?_); refine EW.eAssign ?_; refine EW.eAssign ?_; refine EW.eEnd ?_; (try refine EW.nm ?_))
  all_goals try ((first | refine EW.eRegL (id := 3) ?_ | refine EW.eReg (id := 3) ?_); refine EW.eBuild (place := fun i => some (i * 1, 1)) ?_; refine EW.eBuild (place := fun i => some (i * 1, 1)) ?_; refine EW.eCall Try.call10 (fun w => h3 w) ?_; refine EW.eMove ?_; (first | refine EW.eExtC ?_ | refine EW.eExtA ?_); (first | refine EW.eExtC ?_ | refine EW.eExtA ?_); refine EW.eAlloc ?_; (first | refine EW.eStoreW (k := 4) ?_ | refine EW.eStore (k := 4) ?_); refine EW.eAssign ?_; refine EW.eEnd ?_; (try refine EW.nm ?_))
  all_goals try ((first | refine EW.eRegL (id := 4) ?_ | refine EW.eReg (id := 4) ?_); refine EW.eMove ?_; refine EW.eEql ?_; refine EW.eMove ?_)
  all_goals try (refine EW.eGuard (j := 2) (o := ⟨some 26, _, _, _, _, _⟩) ?_ ?_ <;> (intro hb hb'; (try dsimp only at hb'); (try (exfalso; first | omega | with_reducible exact absurd rfl hb'))))
  all_goals try ((first | refine EW.eSkipT (j := 2) ?_ | refine EW.eSkipU (j := 2) ?_ | refine EW.eMove ?_); (first | refine EW.eSkipT (j := 2) ?_ | refine EW.eSkipU (j := 2) ?_ | refine EW.eEql ?_); (first | refine EW.ePickT ?_ | refine EW.ePickF ?_); refine EW.eMove ?_)
  all_goals try (refine EW.eGuard (j := 6) (o := ⟨some 30, _, _, _, _, _⟩) ?_ ?_ <;> (intro hb hb'; (try dsimp only at hb'); (try (exfalso; first | omega | with_reducible exact absurd rfl hb'))))
  all_goals try ((first | refine EW.eSkipT (j := 6) ?_ | refine EW.eSkipU (j := 6) ?_ | refine EW.eMove ?_); (first | refine EW.eSkipT (j := 6) ?_ | refine EW.eSkipU (j := 6) ?_ | refine EW.eEql ?_); (first | refine EW.ePickT ?_ | refine EW.ePickF ?_); refine EW.eMove ?_)
  all_goals try (refine EW.eGuard (j := 10) (o := ⟨some 34, _, _, _, _, _⟩) ?_ ?_ <;> (intro hb hb'; (try dsimp only at hb'); (try (exfalso; first | omega | with_reducible exact absurd rfl hb'))))
  all_goals try ((first | refine EW.eSkipT (j := 10) ?_ | refine EW.eSkipU (j := 10) ?_ | refine EW.eMove ?_); (first | refine EW.eSkipT (j := 10) ?_ | refine EW.eSkipU (j := 10) ?_ | refine EW.eEql ?_); (first | refine EW.ePickT ?_ | refine EW.ePickF ?_); refine EW.eMove ?_)
  all_goals try (refine EW.eGuard (j := 14) (o := ⟨some 38, _, _, _, _, _⟩) ?_ ?_ <;> (intro hb hb'; (try dsimp only at hb'); (try (exfalso; first | omega | with_reducible exact absurd rfl hb'))))
  all_goals try ((first | refine EW.eSkipT (j := 14) ?_ | refine EW.eSkipU (j := 14) ?_ | refine EW.eLoadA (k := 4) ?_); (first | refine EW.eSkipT (j := 14) ?_ | refine EW.eSkipU (j := 14) ?_ | refine EW.eBuild (place := fun i => some (i * 1, 1)) ?_); (first | refine EW.eSkipT (j := 14) ?_ | refine EW.eSkipU (j := 14) ?_ | refine EW.eEqlA ?_); (first | refine EW.ePickT ?_ | refine EW.ePickF ?_); refine EW.eMove ?_)
  all_goals try (refine EW.eGuard (j := 19) (o := ⟨some 43, _, _, _, _, _⟩) ?_ ?_ <;> (intro hb hb'; (try dsimp only at hb'); (try (exfalso; first | omega | with_reducible exact absurd rfl hb'))))
  all_goals try ((first | refine EW.eSkipT (j := 19) ?_ | refine EW.eSkipU (j := 19) ?_ | refine EW.eMove ?_); (first | refine EW.eSkipT (j := 19) ?_ | refine EW.eSkipU (j := 19) ?_ | refine EW.eEql ?_); (first | refine EW.ePickT ?_ | refine EW.ePickF ?_); refine EW.eAssign ?_; refine EW.eEnd ?_; (try refine EW.nm ?_))
  all_goals (refine EW.eLeaveP ?_; intro w' hW; refine ⟨?_, hW⟩)
  all_goals rfl
theorem edges_err (pl n a0 a1 a2 a3 b0 b1 b2 b3 e : Int) (w : World) (l0 : 0 ≤ pl) (l1 : pl < 256) (hn : pl.tmod 7 = n) (n0 : 0 ≤ n) (n1 : n < 7) (he : e = 90 ∨ e = 2) (hX : CRS n (V4 a0 a1 a2 a3) (V4 b0 b1 b2 b3) (V4 0 0 0 0) e) (hY : CRS n (V4 b0 b1 b2 b3) (V4 a0 a1 a2 a3) (V4 0 0 0 0) e) :
    Calls Try.prog 3 #[.int .u8 pl, V4 a0 a1 a2 a3, V4 b0 b1 b2 b3] w fun e w' => e = .returned (.bool true) ∧ Below w.heap.size w w' := by
  have hr := rm_is hn
  clear hn
  rcases he with rfl | rfl
  all_goals refine EW.eEnter Try.func3 rfl Try.ntmps3 ?_
  all_goals try (refine EW.nm ?_)
  all_goals try ((first | refine EW.eRegL (id := 0) ?_ | refine EW.eReg (id := 0) ?_); refine EW.eBox ?_; refine EW.eBox ?_; refine EW.eAssign ?_; refine EW.eEnd ?_; (try refine EW.nm ?_))
  all_goals try ((first | refine EW.eRegL (id := 1) ?_ | refine EW.eReg (id := 1) ?_); refine EW.eCall Try.call9 (fun w => calive w) ?_; refine EW.eAssign ?_; refine EW.eEnd ?_; (try refine EW.nm ?_))
  all_goals try ((first | refine EW.eRegL (id := 2) ?_ | refine EW.eReg (id := 2) ?_); refine EW.eMove ?_; refine EW.eConv ?_; refine EW.eRem ?_ (hr' := hr); refine EW.eAssign ?_; refine EW.eEnd ?_; (try refine EW.nm ?_))
  all_goals try ((first | refine EW.eRegL (id := 3) ?_ | refine EW.eReg (id := 3) ?_); refine EW.eMove ?_; refine EW.eLoadA (k := 4) ?_; refine EW.eLoadA (k := 4) ?_; (first | refine EW.eCall Try.call10 (fun w => hX w) ?_ | refine EW.eCall Try.call10 (fun w => hY w) ?_); refine EW.eMove ?_; (first | refine EW.eExtC ?_ | refine EW.eExtA ?_); (first | refine EW.eExtC ?_ | refine EW.eExtA ?_); refine EW.eAlloc ?_; (first | refine EW.eStoreW (k := 4) ?_ | refine EW.eStore (k := 4) ?_); refine EW.eAssign ?_; refine EW.eEnd ?_; (try refine EW.nm ?_))
  all_goals try ((first | refine EW.eRegL (id := 4) ?_ | refine EW.eReg (id := 4) ?_); refine EW.eMove ?_; refine EW.eLoadA (k := 4) ?_; refine EW.eLoadA (k := 4) ?_; (first | refine EW.eCall Try.call10 (fun w => hX w) ?_ | refine EW.eCall Try.call10 (fun w => hY w) ?_); refine EW.eMove ?_; (first | refine EW.eExtC ?_ | refine EW.eExtA ?_); (first | refine EW.eExtC ?_ | refine EW.eExtA ?_); refine EW.eAlloc ?_; (first | refine EW.eStoreW (k := 4) ?_ | refine EW.eStore (k := 4) ?_); refine EW.eAssign ?_; refine EW.eEnd ?_; (try refine EW.nm ?_))
  all_goals try ((first | refine EW.eRegL (id := 5) ?_ | refine EW.eReg (id := 5) ?_); refine EW.eLoadA (k := 4) ?_; refine EW.eLoadA (k := 4) ?_; refine EW.eNeqA ?_; refine EW.eMove ?_)
  all_goals try (refine EW.eGuard (j := 3) (o := ⟨some 38, _, _, _, _, _⟩) ?_ ?_ <;> (intro hb hb'; (try dsimp only at hb'); (try (exfalso; first | omega | with_reducible exact absurd rfl hb'))))
  all_goals try ((first | refine EW.eSkipF (j := 3) ?_ | refine EW.eSkipU (j := 3) ?_ | refine EW.eMove ?_); (first | refine EW.eSkipF (j := 3) ?_ | refine EW.eSkipU (j := 3) ?_ | refine EW.eEql ?_); (first | refine EW.eSkipF (j := 3) ?_ | refine EW.eSkipU (j := 3) ?_ | refine EW.eMove ?_); (first | refine EW.eSkipF (j := 3) ?_ | refine EW.eSkipU (j := 3) ?_ | refine EW.eEql ?_); (first | refine EW.eSkipF (j := 3) ?_ | refine EW.eSkipU (j := 3) ?_ | refine EW.eNeqB ?_); (first | refine EW.ePickT ?_ | refine EW.ePickF ?_); refine EW.eEnd ?_; (try refine EW.nm ?_))
  all_goals try (first | refine EW.eYes (x := Operand.tmp 43) ?_ | refine EW.eNo (x := Operand.tmp 43) ?_ | (refine EW.eCond (x := Operand.tmp 43) ?_ ?_ <;> (intro hb hb'; (try dsimp only at hb'); (try (exfalso; first | omega | with_reducible exact absurd rfl hb')))))
  all_goals try (refine EW.nm ?_)
  all_goals try ((first | refine EW.eRegL (id := 6) ?_ | refine EW.eReg (id := 6) ?_); refine EW.eAssign ?_; refine EW.eEnd ?_; (try refine EW.nm ?_))
  all_goals try ((first | refine EW.eRegL (id := 7) ?_ | refine EW.eReg (id := 7) ?_); refine EW.eMove ?_; refine EW.eNeq ?_; refine EW.eEnd ?_; (try refine EW.nm ?_))
  all_goals try (first | refine EW.eYes (x := Operand.tmp 45) ?_ | refine EW.eNo (x := Operand.tmp 45) ?_ | (refine EW.eCond (x := Operand.tmp 45) ?_ ?_ <;> (intro hb hb'; (try dsimp only at hb'); (try (exfalso; first | omega | with_reducible exact absurd rfl hb')))))
  all_goals try (refine EW.nm ?_)
  all_goals try ((first | refine EW.eRegL (id := 8) ?_ | refine EW.eReg (id := 8) ?_); refine EW.eMove ?_; refine EW.eAssign ?_; refine EW.eEnd ?_; (try refine EW.nm ?_))
  all_goals try ((first | refine EW.eRegL (id := 9) ?_ | refine EW.eReg (id := 9) ?_); refine EW.eAssign ?_; refine EW.eEnd ?_; (try refine EW.nm ?_))
  all_goals try (refine EW.eUnroll 5 ?_)
  all_goals try (refine EW.nm ?_)
  iterate 5 (
    all_goals try ((first | refine EW.eRegL (id := 10) ?_ | refine EW.eReg (id := 10) ?_); refine EW.eMove ?_; refine EW.eLss ?_; refine EW.eEnd ?_; (try refine EW.nm ?_))
    all_goals try (first | refine EW.eYes (x := Operand.tmp 48) ?_ | refine EW.eNo (x := Operand.tmp 48) ?_ | (refine EW.eCond (x := Operand.tmp 48) ?_ ?_ <;> (intro hb hb'; (try dsimp only at hb'); (try (exfalso; first | omega | with_reducible exact absurd rfl hb')))))
    all_goals try (refine EW.nm ?_)
    all_goals try ((first | refine EW.eRegL (id := 12) ?_ | refine EW.eReg (id := 12) ?_); refine EW.eMove ?_; refine EW.eIndexAddr (z := 1) ?_; refine EW.eLoad1 ?_; refine EW.eMove ?_; refine EW.eIndexAddr (z := 1) ?_; refine EW.eLoad1 ?_; refine EW.eMove ?_; refine EW.eIndexAddr (z := 1) ?_; refine EW.eLoad1 ?_; refine EW.eMin ?_; refine EW.eLss ?_; refine EW.eMove ?_)
    all_goals try (refine EW.eGuard (j := 11) (o := ⟨some 63, _, _, _, _, _⟩) ?_ ?_ <;> (intro hb hb'; (try dsimp only at hb'); (try (exfalso; first | omega | with_reducible exact absurd rfl hb'))))
    all_goals try ((first | refine EW.eSkipF (j := 11) ?_ | refine EW.eSkipU (j := 11) ?_ | refine EW.eMove ?_); (first | refine EW.eSkipF (j := 11) ?_ | refine EW.eSkipU (j := 11) ?_ | refine EW.eIndexAddr (z := 1) ?_); (first | refine EW.eSkipF (j := 11) ?_ | refine EW.eSkipU (j := 11) ?_ | refine EW.eLoad1 ?_); (first | refine EW.eSkipF (j := 11) ?_ | refine EW.eSkipU (j := 11) ?_ | refine EW.eMove ?_); (first | refine EW.eSkipF (j := 11) ?_ | refine EW.eSkipU (j := 11) ?_ | refine EW.eIndexAddr (z := 1) ?_); (first | refine EW.eSkipF (j := 11) ?_ | refine EW.eSkipU (j := 11) ?_ | refine EW.eLoad1 ?_); (first | refine EW.eSkipF (j := 11) ?_ | refine EW.eSkipU (j := 11) ?_ | refine EW.eMove ?_); (first | refine EW.eSkipF (j := 11) ?_ | refine EW.eSkipU (j := 11) ?_ | refine EW.eIndexAddr (z := 1) ?_); (first | refine EW.eSkipF (j := 11) ?_ | refine EW.eSkipU (j := 11) ?_ | refine EW.eLoad1 ?_); (first | refine EW.eSkipF (j := 11) ?_ | refine EW.eSkipU (j := 11) ?_ | refine EW.eMax ?_); (first | refine EW.eSkipF (j := 11) ?_ | refine EW.eSkipU (j := 11) ?_ | refine EW.eGtr ?_); (first | refine EW.ePickT ?_ | refine EW.ePickF ?_); refine EW.eDraw ?_; (try refine EW.nm ?_))
    all_goals try (first | refine EW.eYes (x := Operand.tmp 74) ?_ | refine EW.eNo (x := Operand.tmp 74) ?_ | (refine EW.eCond (x := Operand.tmp 74) ?_ ?_ <;> (intro hb hb'; (try dsimp only at hb'); (try (exfalso; first | omega | with_reducible exact absurd rfl hb')))))
    all_goals try (refine EW.nm ?_)
    all_goals try ((first | refine EW.eRegL (id := 13) ?_ | refine EW.eReg (id := 13) ?_); refine EW.eAssign ?_; refine EW.eEnd ?_; (try refine EW.nm ?_))
    all_goals try ((first | refine EW.eRegL (id := 11) ?_ | refine EW.eReg (id := 11) ?_); refine EW.eMove ?_; refine EW.eAdd ?_; refine EW.eAssign ?_; refine EW.eEnd ?_; (try refine EW.nm ?_)))
  all_goals try ((first | refine EW.eRegL (id := 14) ?_ | refine EW.eReg (id := 14) ?_); refine EW.eMove ?_; refine EW.eLoadA (k := 4) ?_; fail "no contract of mullion/clip.Dist"; refine EW.eMove ?_; (first | refine EW.eExtC ?_ | refine EW.eExtA ?_); (first | refine EW.eExtC ?_ | refine EW.eExtA ?_); refine EW.eAssign ?_; refine EW.eAssign ?_; refine EW.eEnd ?_; (try refine EW.nm ?_))
  all_goals try ((first | refine EW.eRegL (id := 15) ?_ | refine EW.eReg (id := 15) ?_); refine EW.eMove ?_; refine EW.eMove ?_)
  all_goals try (refine EW.eGuard (j := 1) (o := ⟨some 83, _, _, _, _, _⟩) ?_ ?_ <;> (intro hb hb'; (try dsimp only at hb'); (try (exfalso; first | omega | with_reducible exact absurd rfl hb'))))
  all_goals try ((first | refine EW.eSkipT (j := 1) ?_ | refine EW.eSkipU (j := 1) ?_ | refine EW.eMove ?_); (first | refine EW.eSkipT (j := 1) ?_ | refine EW.eSkipU (j := 1) ?_ | refine EW.eEql ?_); (first | refine EW.ePickT ?_ | refine EW.ePickF ?_); refine EW.eMove ?_)
  all_goals try (refine EW.eGuard (j := 5) (o := ⟨some 87, _, _, _, _, _⟩) ?_ ?_ <;> (intro hb hb'; (try dsimp only at hb'); (try (exfalso; first | omega | with_reducible exact absurd rfl hb'))))
  all_goals try ((first | refine EW.eSkipT (j := 5) ?_ | refine EW.eSkipU (j := 5) ?_ | refine EW.eMove ?_); (first | refine EW.eSkipT (j := 5) ?_ | refine EW.eSkipU (j := 5) ?_ | refine EW.eGeq ?_); (first | refine EW.ePickT ?_ | refine EW.ePickF ?_); refine EW.eMove ?_)
  all_goals try (refine EW.eGuard (j := 9) (o := ⟨some 91, _, _, _, _, _⟩) ?_ ?_ <;> (intro hb hb'; (try dsimp only at hb'); (try (exfalso; first | omega | with_reducible exact absurd rfl hb'))))
  all_goals try ((first | refine EW.eSkipT (j := 9) ?_ | refine EW.eSkipU (j := 9) ?_ | refine EW.eMove ?_); (first | refine EW.eSkipT (j := 9) ?_ | refine EW.eSkipU (j := 9) ?_ | refine EW.eLeq ?_); (first | refine EW.ePickT ?_ | refine EW.ePickF ?_); refine EW.eAssign ?_; refine EW.eEnd ?_; (try refine EW.nm ?_))
  all_goals (refine EW.eLeaveP ?_; intro w' hW; refine ⟨?_, hW⟩)
  all_goals rfl
abbrev Btw (a b x : Int) : Prop := (a ≤ x ∧ x ≤ b) ∨ (b ≤ x ∧ x ≤ a)
set_option maxHeartbeats 2000000 in
theorem edges_ok (pl n a0 a1 a2 a3 b0 b1 b2 b3 x0 x1 x2 x3 d : Int) (w : World) (l0 : 0 ≤ pl) (l1 : pl < 256) (hn : pl.tmod 7 = n) (n0 : 0 ≤ n) (n1 : n < 7) (k0 : Btw a0 b0 x0) (k1 : Btw a1 b1 x1) (k2 : Btw a2 b2 x2) (k3 : Btw a3 b3 x3) (d0 : -2 ≤ d) (d1 : d ≤ 2) (hX : CRS n (V4 a0 a1 a2 a3) (V4 b0 b1 b2 b3) (V4 x0 x1 x2 x3) 0) (hY : CRS n (V4 b0 b1 b2 b3) (V4 a0 a1 a2 a3) (V4 x0 x1 x2 x3) 0) (hD : DST n (V4 x0 x1 x2 x3) d 0) :
    Calls Try.prog 3 #[.int .u8 pl, V4 a0 a1 a2 a3, V4 b0 b1 b2 b3] w fun e w' => e = .returned (.bool true) ∧ Below w.heap.size w w' := by
  have hr := rm_is hn
  clear hn
  refine EW.eEnter Try.func3 rfl Try.ntmps3 ?_
  all_goals try (refine EW.nm ?_)
  all_goals try ((first | refine EW.eRegL (id := 0) ?_ | refine EW.eReg (id := 0) ?_); refine EW.eBox ?_; refine EW.eBox ?_; refine EW.eAssign ?_; refine EW.eEnd ?_; (try refine EW.nm ?_))
  all_goals try ((first | refine EW.eRegL (id := 1) ?_ | refine EW.eReg (id := 1) ?_); refine EW.eCall Try.call9 (fun w => calive w) ?_; refine EW.eAssign ?_; refine EW.eEnd ?_; (try refine EW.nm ?_))
  all_goals try ((first | refine EW.eRegL (id := 2) ?_ | refine EW.eReg (id := 2) ?_); refine EW.eMove ?_; refine EW.eConv ?_; refine EW.eRem ?_ (hr' := hr); refine EW.eAssign ?_; refine EW.eEnd ?_; (try refine EW.nm ?_))
  all_goals try ((first | refine EW.eRegL (id := 3) ?_ | refine EW.eReg (id := 3) ?_); refine EW.eMove ?_; refine EW.eLoadA (k := 4) ?_; refine EW.eLoadA (k := 4) ?_; (first | refine EW.eCall Try.call10 (fun w => hX w) ?_ | refine EW.eCall Try.call10 (fun w => hY w) ?_); refine EW.eMove ?_; (first | refine EW.eExtC ?_ | refine EW.eExtA ?_); (first | refine EW.eExtC ?_ | refine EW.eExtA ?_); refine EW.eAlloc ?_; (first | refine EW.eStoreW (k := 4) ?_ | refine EW.eStore (k := 4) ?_); refine EW.eAssign ?_; refine EW.eEnd ?_; (try refine EW.nm ?_))
  all_goals try ((first | refine EW.eRegL (id := 4) ?_ | refine EW.eReg (id := 4) ?_); refine EW.eMove ?_; refine EW.eLoadA (k := 4) ?_; refine EW.eLoadA (k := 4) ?_; (first | refine EW.eCall Try.call10 (fun w => hX w) ?_ | refine EW.eCall Try.call10 (fun w => hY w) ?_); refine EW.eMove ?_; (first | refine EW.eExtC ?_ | refine EW.eExtA ?_); (first | refine EW.eExtC ?_ | refine EW.eExtA ?_); refine EW.eAlloc ?_; (first | refine EW.eStoreW (k := 4) ?_ | refine EW.eStore (k := 4) ?_); refine EW.eAssign ?_; refine EW.eEnd ?_; (try refine EW.nm ?_))
  all_goals try ((first | refine EW.eRegL (id := 5) ?_ | refine EW.eReg (id := 5) ?_); refine EW.eLoadA (k := 4) ?_; refine EW.eLoadA (k := 4) ?_; refine EW.eNeqA ?_; refine EW.eMove ?_)
  all_goals try (refine EW.eGuard (j := 3) (o := ⟨some 38, _, _, _, _, _⟩) ?_ ?_ <;> (intro hb hb'; (try dsimp only at hb'); (try (exfalso; first | omega | with_reducible exact absurd rfl hb'))))
  all_goals try ((first | refine EW.eSkipF (j := 3) ?_ | refine EW.eSkipU (j := 3) ?_ | refine EW.eMove ?_); (first | refine EW.eSkipF (j := 3) ?_ | refine EW.eSkipU (j := 3) ?_ | refine EW.eEql ?_); (first | refine EW.eSkipF (j := 3) ?_ | refine EW.eSkipU (j := 3) ?_ | refine EW.eMove ?_); (first | refine EW.eSkipF (j := 3) ?_ | refine EW.eSkipU (j := 3) ?_ | refine EW.eEql ?_); (first | refine EW.eSkipF (j := 3) ?_ | refine EW.eSkipU (j := 3) ?_ | refine EW.eNeqB ?_); (first | refine EW.ePickT ?_ | refine EW.ePickF ?_); refine EW.eEnd ?_; (try refine EW.nm ?_))
  all_goals try (first | refine EW.eYes (x := Operand.tmp 43) ?_ | refine EW.eNo (x := Operand.tmp 43) ?_ | (refine EW.eCond (x := Operand.tmp 43) ?_ ?_ <;> (intro hb hb'; (try dsimp only at hb'); (try (exfalso; first | omega | with_reducible exact absurd rfl hb')))))
  all_goals try (refine EW.nm ?_)
  all_goals try ((first | refine EW.eRegL (id := 6) ?_ | refine EW.eReg (id := 6) ?_); refine EW.eAssign ?_; refine EW.eEnd ?_; (try refine EW.nm ?_))
  all_goals try ((first | refine EW.eRegL (id := 7) ?_ | refine EW.eReg (id := 7) ?_); refine EW.eMove ?_; refine EW.eNeq ?_; refine EW.eEnd ?_; (try refine EW.nm ?_))
  all_goals try (first | refine EW.eYes (x := Operand.tmp 45) ?_ | refine EW.eNo (x := Operand.tmp 45) ?_ | (refine EW.eCond (x := Operand.tmp 45) ?_ ?_ <;> (intro hb hb'; (try dsimp only at hb'); (try (exfalso; first | omega | with_reducible exact absurd rfl hb')))))
  all_goals try (refine EW.nm ?_)
  all_goals try ((first | refine EW.eRegL (id := 8) ?_ | refine EW.eReg (id := 8) ?_); refine EW.eMove ?_; refine EW.eAssign ?_; refine EW.eEnd ?_; (try refine EW.nm ?_))
  all_goals try ((first | refine EW.eRegL (id := 9) ?_ | refine EW.eReg (id := 9) ?_); refine EW.eAssign ?_; refine EW.eEnd ?_; (try refine EW.nm ?_))
  all_goals try (refine EW.eUnroll 5 ?_)
  all_goals try (refine EW.nm ?_)
  iterate 5 (
    all_goals try ((first | refine EW.eRegL (id := 10) ?_ | refine EW.eReg (id := 10) ?_); refine EW.eMove ?_; refine EW.eLss ?_; refine EW.eEnd ?_; (try refine EW.nm ?_))
    all_goals try (first | refine EW.eYes (x := Operand.tmp 48) ?_ | refine EW.eNo (x := Operand.tmp 48) ?_ | (refine EW.eCond (x := Operand.tmp 48) ?_ ?_ <;> (intro hb hb'; (try dsimp only at hb'); (try (exfalso; first | omega | with_reducible exact absurd rfl hb')))))
    all_goals try (refine EW.nm ?_)
    all_goals try ((first | refine EW.eRegL (id := 12) ?_ | refine EW.eReg (id := 12) ?_); refine EW.eMove ?_; refine EW.eIndexAddr (z := 1) ?_; refine EW.eLoad1 ?_; refine EW.eMove ?_; refine EW.eIndexAddr (z := 1) ?_; refine EW.eLoad1 ?_; refine EW.eMove ?_; refine EW.eIndexAddr (z := 1) ?_; refine EW.eLoad1 ?_; refine EW.eMin ?_; refine EW.eLss ?_; refine EW.eMove ?_)
    all_goals try (refine EW.eGuard (j := 11) (o := ⟨some 63, _, _, _, _, _⟩) ?_ ?_ <;> (intro hb hb'; (try dsimp only at hb'); (try (exfalso; first | omega | with_reducible exact absurd rfl hb'))))
    all_goals try ((first | refine EW.eSkipF (j := 11) ?_ | refine EW.eSkipU (j := 11) ?_ | refine EW.eMove ?_); (first | refine EW.eSkipF (j := 11) ?_ | refine EW.eSkipU (j := 11) ?_ | refine EW.eIndexAddr (z := 1) ?_); (first | refine EW.eSkipF (j := 11) ?_ | refine EW.eSkipU (j := 11) ?_ | refine EW.eLoad1 ?_); (first | refine EW.eSkipF (j := 11) ?_ | refine EW.eSkipU (j := 11) ?_ | refine EW.eMove ?_); (first | refine EW.eSkipF (j := 11) ?_ | refine EW.eSkipU (j := 11) ?_ | refine EW.eIndexAddr (z := 1) ?_); (first | refine EW.eSkipF (j := 11) ?_ | refine EW.eSkipU (j := 11) ?_ | refine EW.eLoad1 ?_); (first | refine EW.eSkipF (j := 11) ?_ | refine EW.eSkipU (j := 11) ?_ | refine EW.eMove ?_); (first | refine EW.eSkipF (j := 11) ?_ | refine EW.eSkipU (j := 11) ?_ | refine EW.eIndexAddr (z := 1) ?_); (first | refine EW.eSkipF (j := 11) ?_ | refine EW.eSkipU (j := 11) ?_ | refine EW.eLoad1 ?_); (first | refine EW.eSkipF (j := 11) ?_ | refine EW.eSkipU (j := 11) ?_ | refine EW.eMax ?_); (first | refine EW.eSkipF (j := 11) ?_ | refine EW.eSkipU (j := 11) ?_ | refine EW.eGtr ?_); (first | refine EW.ePickT ?_ | refine EW.ePickF ?_); refine EW.eDraw ?_; (try refine EW.nm ?_))
    all_goals try (first | refine EW.eYes (x := Operand.tmp 74) ?_ | refine EW.eNo (x := Operand.tmp 74) ?_ | (refine EW.eCond (x := Operand.tmp 74) ?_ ?_ <;> (intro hb hb'; (try dsimp only at hb'); (try (exfalso; first | omega | with_reducible exact absurd rfl hb')))))
    all_goals try (refine EW.nm ?_)
    all_goals try ((first | refine EW.eRegL (id := 13) ?_ | refine EW.eReg (id := 13) ?_); refine EW.eAssign ?_; refine EW.eEnd ?_; (try refine EW.nm ?_))
    all_goals try ((first | refine EW.eRegL (id := 11) ?_ | refine EW.eReg (id := 11) ?_); refine EW.eMove ?_; refine EW.eAdd ?_; refine EW.eAssign ?_; refine EW.eEnd ?_; (try refine EW.nm ?_)))
  all_goals try ((first | refine EW.eRegL (id := 14) ?_ | refine EW.eReg (id := 14) ?_); refine EW.eMove ?_; refine EW.eLoadA (k := 4) ?_; refine EW.eCall Try.call11 (fun w => hD w) ?_; refine EW.eMove ?_; (first | refine EW.eExtC ?_ | refine EW.eExtA ?_); (first | refine EW.eExtC ?_ | refine EW.eExtA ?_); refine EW.eAssign ?_; refine EW.eAssign ?_; refine EW.eEnd ?_; (try refine EW.nm ?_))
  all_goals try ((first | refine EW.eRegL (id := 15) ?_ | refine EW.eReg (id := 15) ?_); refine EW.eMove ?_; refine EW.eMove ?_)
  all_goals try (refine EW.eGuard (j := 1) (o := ⟨some 83, _, _, _, _, _⟩) ?_ ?_ <;> (intro hb hb'; (try dsimp only at hb'); (try (exfalso; first | omega | with_reducible exact absurd rfl hb'))))
  all_goals try ((first | refine EW.eSkipT (j := 1) ?_ | refine EW.eSkipU (j := 1) ?_ | refine EW.eMove ?_); (first | refine EW.eSkipT (j := 1) ?_ | refine EW.eSkipU (j := 1) ?_ | refine EW.eEql ?_); (first | refine EW.ePickT ?_ | refine EW.ePickF ?_); refine EW.eMove ?_)
  all_goals try (refine EW.eGuard (j := 5) (o := ⟨some 87, _, _, _, _, _⟩) ?_ ?_ <;> (intro hb hb'; (try dsimp only at hb'); (try (exfalso; first | omega | with_reducible exact absurd rfl hb'))))
  all_goals try ((first | refine EW.eSkipT (j := 5) ?_ | refine EW.eSkipU (j := 5) ?_ | refine EW.eMove ?_); (first | refine EW.eSkipT (j := 5) ?_ | refine EW.eSkipU (j := 5) ?_ | refine EW.eGeq ?_); (first | refine EW.ePickT ?_ | refine EW.ePickF ?_); refine EW.eMove ?_)
  all_goals try (refine EW.eGuard (j := 9) (o := ⟨some 91, _, _, _, _, _⟩) ?_ ?_ <;> (intro hb hb'; (try dsimp only at hb'); (try (exfalso; first | omega | with_reducible exact absurd rfl hb'))))
  all_goals try ((first | refine EW.eSkipT (j := 9) ?_ | refine EW.eSkipU (j := 9) ?_ | refine EW.eMove ?_); (first | refine EW.eSkipT (j := 9) ?_ | refine EW.eSkipU (j := 9) ?_ | refine EW.eLeq ?_); (first | refine EW.ePickT ?_ | refine EW.ePickF ?_); refine EW.eAssign ?_; refine EW.eEnd ?_; (try refine EW.nm ?_))
  all_goals (refine EW.eLeaveP ?_; intro w' hW; refine ⟨?_, hW⟩)
  all_goals (first | rfl | (refine congrArg Ending.returned ?_; simp only [Value.int.injEq, Value.bool.injEq, true_and]; (repeat' split) <;> first | rfl | omega))
theorem btw {a b P Q : Int} (h0 : 0 ≤ P) (h1 : Q < 0) : Btw a b (a + cq (b - a) P (P - Q)) := by
  have := cq_bd (D := b - a) (P := P) (C := P - Q) h0 (by omega)
  unfold Btw; omega
theorem btw' {a b P Q : Int} (h0 : 0 ≤ P) (h1 : Q < 0) : Btw b a (a + cq (b - a) P (P - Q)) := (btw h0 h1).symm
theorem sm_btw {a b x : Int} (ha : Sm a) (hB : Sm b) (h : Btw a b x) : Sm x := by unfold Btw at h; unfold Sm at *; omega
theorem edges (pl a0 a1 a2 a3 b0 b1 b2 b3 : Int) (w : World) (l0 : 0 ≤ pl) (l1 : pl < 256) :
    Calls Try.prog 3 #[.int .u8 pl, V4 a0 a1 a2 a3, V4 b0 b1 b2 b3] w fun e w' => e = .returned (.bool true) ∧ Below w.heap.size w w' := by
  obtain ⟨n, hn⟩ : ∃ n, pl.tmod 7 = n := ⟨_, rfl⟩
  have hn' : pl % 7 = n := by rw [← hn, Int.tmod_eq_emod_of_nonneg l0]
  have n0 : 0 ≤ n := by omega
  have n1 : n < 7 := by omega
  by_cases ha : Sm4 a0 a1 a2 a3
  · by_cases hB : Sm4 b0 b1 b2 b3
    · obtain ⟨P, hP⟩ : ∃ P, dsV n a0 a1 a2 a3 = P := ⟨_, rfl⟩
      obtain ⟨Q, hQ⟩ : ∃ Q, dsV n b0 b1 b2 b3 = Q := ⟨_, rfl⟩
      have dA : DST n (V4 a0 a1 a2 a3) P 0 := hP ▸ dst_ok n _ _ _ _ n0 n1 ha
      have dB : DST n (V4 b0 b1 b2 b3) Q 0 := hQ ▸ dst_ok n _ _ _ _ n0 n1 hB
      by_cases hs : P < 0 ↔ Q < 0
      · exact edges_err pl n _ _ _ _ _ _ _ _ 2 w l0 l1 hn n0 n1 (.inr rfl) (Cross_same n _ _ _ _ _ _ _ _ P Q dA dB hs) (Cross_same n _ _ _ _ _ _ _ _ Q P dB dA hs.symm)
      · rcases Int.lt_or_le P 0 with h | h
        · have hq : 0 ≤ Q := by omega
          have s : Sm4 _ _ _ _ := ⟨sm_btw hB.1 ha.1 (btw hq h), sm_btw hB.2.1 ha.2.1 (btw hq h), sm_btw hB.2.2.1 ha.2.2.1 (btw hq h), sm_btw hB.2.2.2 ha.2.2.2 (btw hq h)⟩
          obtain ⟨d0, d1⟩ := ds_near n b0 b1 b2 b3 a0 a1 a2 a3 Q P hQ hP hq h
          exact edges_ok pl n _ _ _ _ _ _ _ _ _ _ _ _ _ w l0 l1 hn n0 n1 (btw' hq h) (btw' hq h) (btw' hq h) (btw' hq h) d0 d1 (crs_neg n _ _ _ _ _ _ _ _ n0 n1 hB ha Q P hQ hP hq h) (crs_pos n _ _ _ _ _ _ _ _ n0 n1 hB ha Q P hQ hP hq h) (dst_ok n _ _ _ _ n0 n1 s)
        · have hq : Q < 0 := by omega
          have s : Sm4 _ _ _ _ := ⟨sm_btw ha.1 hB.1 (btw h hq), sm_btw ha.2.1 hB.2.1 (btw h hq), sm_btw ha.2.2.1 hB.2.2.1 (btw h hq), sm_btw ha.2.2.2 hB.2.2.2 (btw h hq)⟩
          obtain ⟨d0, d1⟩ := ds_near n a0 a1 a2 a3 b0 b1 b2 b3 P Q hP hQ h hq
          exact edges_ok pl n _ _ _ _ _ _ _ _ _ _ _ _ _ w l0 l1 hn n0 n1 (btw h hq) (btw h hq) (btw h hq) (btw h hq) d0 d1 (crs_pos n _ _ _ _ _ _ _ _ n0 n1 ha hB P Q hP hQ h hq) (crs_neg n _ _ _ _ _ _ _ _ n0 n1 ha hB P Q hP hQ h hq) (dst_ok n _ _ _ _ n0 n1 s)
    · have dA : ∃ d e, DST n (V4 a0 a1 a2 a3) d e := ⟨_, _, dst_ok n _ _ _ _ n0 n1 ha⟩
      have dB := dst_no n _ _ _ _ n0 n1 hB
      exact edges_err pl n _ _ _ _ _ _ _ _ 90 w l0 l1 hn n0 n1 (.inl rfl) (Cross_e2 n _ _ _ _ _ _ _ _ _ _ (dst_ok n _ _ _ _ n0 n1 ha) dB) (Cross_e1 n _ _ _ _ _ _ _ _ _ _ _ dB (dst_ok n _ _ _ _ n0 n1 ha))
  · have dA := dst_no n _ _ _ _ n0 n1 ha
    by_cases hB : Sm4 b0 b1 b2 b3
    · have dB := dst_ok n _ _ _ _ n0 n1 hB
      exact edges_err pl n _ _ _ _ _ _ _ _ 90 w l0 l1 hn n0 n1 (.inl rfl) (Cross_e1 n _ _ _ _ _ _ _ _ _ _ _ dA dB) (Cross_e2 n _ _ _ _ _ _ _ _ _ _ dB dA)
    · have dB := dst_no n _ _ _ _ n0 n1 hB
      exact edges_err pl n _ _ _ _ _ _ _ _ 90 w l0 l1 hn n0 n1 (.inl rfl) (Cross_e1 n _ _ _ _ _ _ _ _ _ _ _ dA dB) (Cross_e1 n _ _ _ _ _ _ _ _ _ _ _ dB dA)
theorem edges_row (w : World) (pl a0 a1 a2 a3 b0 b1 b2 b3 : Int) (hp0 : 0 ≤ pl) (hp1 : pl < 256) (q0 : -9223372036854775808 ≤ a0) (r0 : a0 ≤ 9223372036854775807) (q1 : -9223372036854775808 ≤ a1) (r1 : a1 ≤ 9223372036854775807) (q2 : -9223372036854775808 ≤ a2) (r2 : a2 ≤ 9223372036854775807) (q3 : -9223372036854775808 ≤ a3) (r3 : a3 ≤ 9223372036854775807) (q4 : -9223372036854775808 ≤ b0) (r4 : b0 ≤ 9223372036854775807) (q5 : -9223372036854775808 ≤ b1) (r5 : b1 ≤ 9223372036854775807) (q6 : -9223372036854775808 ≤ b2) (r6 : b2 ≤ 9223372036854775807) (q7 : -9223372036854775808 ≤ b3) (r7 : b3 ≤ 9223372036854775807) :
    Calls Try.prog 3 #[.int .u8 pl, V4 a0 a1 a2 a3, V4 b0 b1 b2 b3] w fun e w' => e = .returned (.bool true) ∧ Below w.heap.size w w' := edges pl a0 a1 a2 a3 b0 b1 b2 b3 w hp0 hp1
end Go.Proofs.Ytleelfdpefmnnaa
