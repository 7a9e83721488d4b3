/- MatrixNeutral: the walk of the law. -/
import Derived.Test.YtgjbhocahpplbaaMtC
namespace Go.Proofs.Ytgjbhocahpplbaa
set_option linter.unusedSimpArgs false
set_option linter.unusedVariables false
open Go.RowKit EV
open SX (Wr Tv Qu Rm Sh Is conjP eqs_iff eqs_false)
open EW (PlL PlT PlV PlVs LfV Mm Bt Opn GV YT lpOf nums)
set_option maxRecDepth 20000
abbrev MUL (a b c : List Int) (e : Int) : Prop := ∀ w : World, Calls Try.prog 18 #[Nm a, Nm b] w fun x w' => x = .returned (.tuple #[Nm c, I e]) ∧ Below w.heap.size w w'
abbrev ACR (a c : List Int) : Prop := ∀ w : World, Calls Try.prog 14 #[Nm a] w fun x w' => x = .returned (Nm c) ∧ Below w.heap.size w w'
abbrev APP (a v c : List Int) (e : Int) : Prop := ∀ w : World, Calls Try.prog 16 #[Nm a, Nm v] w fun x w' => x = .returned (.tuple #[Nm c, I e]) ∧ Below w.heap.size w w'
abbrev CHK (a : List Int) (e : Int) : Prop := ∀ w : World, Calls Try.prog 21 #[Nm a, I 4611686018427387904] w fun x w' => x = .returned (I e) ∧ Below w.heap.size w w'
theorem midN (w : World) : Calls Try.prog 11 #[] w fun e w' => e = .returned (Nm idL) ∧ Below w.heap.size w w' := mident w
instance : EW.LenI idL 16 := ⟨rfl⟩
set_option maxHeartbeats 4000000 in
theorem neutral_walk (a b X1 X2 P Q Z at' bt : List Int) (v0 v1 v2 v3 e1 e2 ep eq ez ck cv : Int) (w : World) (la : a.length = 16) (lb : b.length = 16) (l1 : X1.length = 16) (l2 : X2.length = 16) (l3 : P.length = 16) (l4 : Q.length = 16) (l5 : Z.length = 4)
    (h1 : ep = eq ∧ (ep = 0 ∨ ep = 30)) (h2 : (ck = 0 ∧ e1 = 0 ∧ e2 = 0 ∧ X1 = a ∧ X2 = a) ∨ (ck = 30 ∧ e1 = 30 ∧ e2 = 30)) (h3 : (ez = 0 ∧ cv = 0 ∧ Z = [v0, v1, v2, v3]) ∨ (ez = 30 ∧ cv = 30))
    (hM1 : MUL a idL X1 e1) (hM2 : MUL idL a X2 e2) (hM3 : MUL a b P ep) (hM4 : MUL bt at' Q eq) (hA1 : ACR b bt) (hA2 : ACR a at') (hA3 : ep = 0 → ACR P Q) (hC : CHK a ck) (hV : CHK (vec16 [v0, v1, v2, v3]) cv) (hZ : APP idL [v0, v1, v2, v3] Z ez) :
    Calls Try.prog 6 #[Nm a, Nm b, Nm [v0, v1, v2, v3]] w fun e w' => e = .returned (.bool true) ∧ Below w.heap.size w w' := by
  haveI i1 : EW.LenI a 16 := ⟨la⟩
  haveI i2 : EW.LenI b 16 := ⟨lb⟩
  haveI i3 : EW.LenI X1 16 := ⟨l1⟩
  haveI i4 : EW.LenI X2 16 := ⟨l2⟩
  haveI i5 : EW.LenI P 16 := ⟨l3⟩
  haveI i6 : EW.LenI Q 16 := ⟨l4⟩
  haveI i7 : EW.LenI Z 4 := ⟨l5⟩
  obtain ⟨h1, h1'⟩ := h1
  subst h1
  rcases h1' with rfl | rfl <;> rcases h2 with ⟨rfl, rfl, rfl, rfl, rfl⟩ | ⟨rfl, rfl, rfl⟩ <;> rcases h3 with ⟨rfl, rfl, rfl⟩ | ⟨rfl, rfl⟩
  all_goals refine EW.eEnter Try.func6 rfl Try.ntmps6 ?_
  all_goals try (refine EW.nm ?_)
  all_goals try ((first | refine EW.eRegL (id := 0) ?_ | refine EW.eReg (id := 0) ?_); refine EW.eBox ?_; refine EW.eBox ?_; refine EW.eBox ?_; refine EW.eAssign ?_; refine EW.eEnd ?_; (try refine EW.nm ?_))
  all_goals try ((first | refine EW.eRegL (id := 1) ?_ | refine EW.eReg (id := 1) ?_); refine EW.eCall Try.call15 (fun w => malive w) ?_; refine EW.eAssign ?_; refine EW.eEnd ?_; (try refine EW.nm ?_))
  all_goals try ((first | refine EW.eRegL (id := 2) ?_ | refine EW.eReg (id := 2) ?_); refine EW.eCall Try.call11 (fun w => midN w) ?_; refine EW.eAlloc ?_; (first | refine EW.eStoreW (k := 16) ?_ | refine EW.eStore (k := 16) ?_); refine EW.eEnd ?_; (try refine EW.nm ?_))
  all_goals try ((first | refine EW.eRegL (id := 3) ?_ | refine EW.eReg (id := 3) ?_); refine EW.eLoadA (k := 16) ?_; refine EW.eLoadA (k := 16) ?_; (first | refine EW.eCall Try.call18 (fun w => hM1 w) ?_ | refine EW.eCall Try.call18 (fun w => hM2 w) ?_ | refine EW.eCall Try.call18 (fun w => hM3 w) ?_ | refine EW.eCall Try.call18 (fun w => hM4 w) ?_); refine EW.eMove ?_; (first | refine EW.eExtC ?_ | refine EW.eExtA ?_); (first | refine EW.eExtC ?_ | refine EW.eExtA ?_); refine EW.eAlloc ?_; (first | refine EW.eStoreW (k := 16) ?_ | refine EW.eStore (k := 16) ?_); refine EW.eAssign ?_; refine EW.eEnd ?_; (try refine EW.nm ?_))
  all_goals try ((first | refine EW.eRegL (id := 4) ?_ | refine EW.eReg (id := 4) ?_); refine EW.eLoadA (k := 16) ?_; refine EW.eLoadA (k := 16) ?_; (first | refine EW.eCall Try.call18 (fun w => hM1 w) ?_ | refine EW.eCall Try.call18 (fun w => hM2 w) ?_ | refine EW.eCall Try.call18 (fun w => hM3 w) ?_ | refine EW.eCall Try.call18 (fun w => hM4 w) ?_); refine EW.eMove ?_; (first | refine EW.eExtC ?_ | refine EW.eExtA ?_); (first | refine EW.eExtC ?_ | refine EW.eExtA ?_); refine EW.eAlloc ?_; (first | refine EW.eStoreW (k := 16) ?_ | refine EW.eStore (k := 16) ?_); refine EW.eAssign ?_; refine EW.eEnd ?_; (try refine EW.nm ?_))
  all_goals try ((first | refine EW.eRegL (id := 5) ?_ | refine EW.eReg (id := 5) ?_); refine EW.eLoadA (k := 16) ?_; refine EW.eLoadA (k := 16) ?_; (first | refine EW.eCall Try.call18 (fun w => hM1 w) ?_ | refine EW.eCall Try.call18 (fun w => hM2 w) ?_ | refine EW.eCall Try.call18 (fun w => hM3 w) ?_ | refine EW.eCall Try.call18 (fun w => hM4 w) ?_); refine EW.eMove ?_; (first | refine EW.eExtC ?_ | refine EW.eExtA ?_); (first | refine EW.eExtC ?_ | refine EW.eExtA ?_); refine EW.eAlloc ?_; (first | refine EW.eStoreW (k := 16) ?_ | refine EW.eStore (k := 16) ?_); refine EW.eAssign ?_; refine EW.eEnd ?_; (try refine EW.nm ?_))
  all_goals try ((first | refine EW.eRegL (id := 6) ?_ | refine EW.eReg (id := 6) ?_); refine EW.eLoadA (k := 16) ?_; (first | refine EW.eCall Try.call14 (fun w => hA1 w) ?_ | refine EW.eCall Try.call14 (fun w => hA2 w) ?_ | refine EW.eCall Try.call14 (fun w => hA3 rfl w) ?_); refine EW.eLoadA (k := 16) ?_; (first | refine EW.eCall Try.call14 (fun w => hA1 w) ?_ | refine EW.eCall Try.call14 (fun w => hA2 w) ?_ | refine EW.eCall Try.call14 (fun w => hA3 rfl w) ?_); (first | refine EW.eCall Try.call18 (fun w => hM1 w) ?_ | refine EW.eCall Try.call18 (fun w => hM2 w) ?_ | refine EW.eCall Try.call18 (fun w => hM3 w) ?_ | refine EW.eCall Try.call18 (fun w => hM4 w) ?_); refine EW.eMove ?_; (first | refine EW.eExtC ?_ | refine EW.eExtA ?_); (first | refine EW.eExtC ?_ | refine EW.eExtA ?_); refine EW.eAlloc ?_; (first | refine EW.eStoreW (k := 16) ?_ | refine EW.eStore (k := 16) ?_); refine EW.eAssign ?_; refine EW.eDraw ?_; (try refine EW.nm ?_))
  all_goals try ((first | refine EW.eRegL (id := 7) ?_ | refine EW.eReg (id := 7) ?_); refine EW.eMove ?_; refine EW.eMove ?_; refine EW.eNeq ?_; refine EW.eMove ?_)
  all_goals try (refine EW.eGuard (j := 3) (o := ⟨some 52, _, _, _, _, _⟩) ?_ ?_ <;> (intro hb hb'; (try dsimp only at hb'); (try (exfalso; first | omega | with_reducible exact absurd rfl hb'))))
  all_goals try ((first | refine EW.eSkipF (j := 3) ?_ | refine EW.eSkipU (j := 3) ?_ | refine EW.eMove ?_); (first | refine EW.eSkipF (j := 3) ?_ | refine EW.eSkipU (j := 3) ?_ | refine EW.eEql ?_); (first | refine EW.eSkipF (j := 3) ?_ | refine EW.eSkipU (j := 3) ?_ | refine EW.eMove ?_))
  all_goals try (refine EW.eGuard (j := 6) (o := ⟨some 55, _, _, _, _, _⟩) ?_ ?_ <;> (intro hb hb'; (try dsimp only at hb'); (try (exfalso; first | omega | with_reducible exact absurd rfl hb'))))
  all_goals try ((first | refine EW.eSkipT (j := 6) ?_ | refine EW.eSkipU (j := 6) ?_ | refine EW.eLoadA (k := 16) ?_); (first | refine EW.eSkipT (j := 6) ?_ | refine EW.eSkipU (j := 6) ?_ | refine EW.eCall Try.call14 (fun w => hA1 w) ?_ | refine EW.eCall Try.call14 (fun w => hA2 w) ?_ | refine EW.eCall Try.call14 (fun w => hA3 rfl w) ?_); (first | refine EW.eSkipT (j := 6) ?_ | refine EW.eSkipU (j := 6) ?_ | refine EW.eLoadA (k := 16) ?_); (first | refine EW.eSkipT (j := 6) ?_ | refine EW.eSkipU (j := 6) ?_ | refine EW.eNeqA ?_); (first | refine EW.eSkipF (j := 3) ?_ | refine EW.eSkipU (j := 3) ?_ | refine EW.ePickT ?_ | refine EW.ePickF ?_); (first | refine EW.ePickT ?_ | refine EW.ePickF ?_); refine EW.eDraw ?_; (try refine EW.nm ?_))
  all_goals try (first | refine EW.eYes (x := Operand.tmp 60) ?_ | refine EW.eNo (x := Operand.tmp 60) ?_ | (refine EW.eCond (x := Operand.tmp 60) ?_ ?_ <;> (intro hb hb'; (try dsimp only at hb'); (try (exfalso; first | omega | with_reducible exact absurd rfl hb')))))
  all_goals try (refine EW.nm ?_)
  all_goals try ((first | refine EW.eRegL (id := 8) ?_ | refine EW.eReg (id := 8) ?_); refine EW.eAssign ?_; refine EW.eEnd ?_; (try refine EW.nm ?_))
  all_goals try ((first | refine EW.eRegL (id := 9) ?_ | refine EW.eReg (id := 9) ?_); refine EW.eLoadA (k := 16) ?_; (first | refine EW.eCall Try.call21 (fun w => hC w) ?_ | refine EW.eCall Try.call21 (fun w => hV w) ?_); refine EW.eNeq ?_; refine EW.eEnd ?_; (try refine EW.nm ?_))
  all_goals try (first | refine EW.eYes (x := Operand.tmp 63) ?_ | refine EW.eNo (x := Operand.tmp 63) ?_ | (refine EW.eCond (x := Operand.tmp 63) ?_ ?_ <;> (intro hb hb'; (try dsimp only at hb'); (try (exfalso; first | omega | with_reducible exact absurd rfl hb')))))
  all_goals try (refine EW.nm ?_)
  all_goals try ((first | refine EW.eRegL (id := 10) ?_ | refine EW.eReg (id := 10) ?_); refine EW.eMove ?_; refine EW.eMove ?_)
  all_goals try (refine EW.eGuard (j := 1) (o := ⟨some 66, _, _, _, _, _⟩) ?_ ?_ <;> (intro hb hb'; (try dsimp only at hb'); (try (exfalso; first | omega | with_reducible exact absurd rfl hb'))))
  all_goals try ((first | refine EW.eSkipT (j := 1) ?_ | refine EW.eSkipU (j := 1) ?_ | refine EW.eMove ?_); (first | refine EW.eSkipT (j := 1) ?_ | refine EW.eSkipU (j := 1) ?_ | refine EW.eEql ?_); (first | refine EW.ePickT ?_ | refine EW.ePickF ?_); refine EW.eMove ?_)
  all_goals try (refine EW.eGuard (j := 5) (o := ⟨some 70, _, _, _, _, _⟩) ?_ ?_ <;> (intro hb hb'; (try dsimp only at hb'); (try (exfalso; first | omega | with_reducible exact absurd rfl hb'))))
  all_goals try ((first | refine EW.eSkipT (j := 5) ?_ | refine EW.eSkipU (j := 5) ?_ | refine EW.eMove ?_); (first | refine EW.eSkipT (j := 5) ?_ | refine EW.eSkipU (j := 5) ?_ | refine EW.eEql ?_); (first | refine EW.ePickT ?_ | refine EW.ePickF ?_); refine EW.eAssign ?_; refine EW.eEnd ?_; (try refine EW.nm ?_))
  all_goals try ((first | refine EW.eRegL (id := 11) ?_ | refine EW.eReg (id := 11) ?_); refine EW.eLoadA (k := 16) ?_; refine EW.eLoadA (k := 4) ?_; refine EW.eCall Try.call16 (fun w => hZ w) ?_; refine EW.eMove ?_; (first | refine EW.eExtC ?_ | refine EW.eExtA ?_); (first | refine EW.eExtC ?_ | refine EW.eExtA ?_); refine EW.eAlloc ?_; (first | refine EW.eStoreW (k := 4) ?_ | refine EW.eStore (k := 4) ?_); refine EW.eAssign ?_; refine EW.eEnd ?_; (try refine EW.nm ?_))
  all_goals try ((first | refine EW.eRegL (id := 12) ?_ | refine EW.eReg (id := 12) ?_); refine EW.eLoadA (k := 4) ?_; refine EW.eBuild ?_ (hl := bvec v0 v1 v2 v3); (first | refine EW.eCall Try.call21 (fun w => hC w) ?_ | refine EW.eCall Try.call21 (fun w => hV w) ?_); refine EW.eEql ?_; refine EW.eAssign ?_; refine EW.eEnd ?_; (try refine EW.nm ?_))
  all_goals try ((first | refine EW.eRegL (id := 13) ?_ | refine EW.eReg (id := 13) ?_); refine EW.eMove ?_; refine EW.eMove ?_)
  all_goals try (refine EW.eGuard (j := 1) (o := ⟨some 85, _, _, _, _, _⟩) ?_ ?_ <;> (intro hb hb'; (try dsimp only at hb'); (try (exfalso; first | omega | with_reducible exact absurd rfl hb'))))
  all_goals try ((first | refine EW.eSkipT (j := 1) ?_ | refine EW.eSkipU (j := 1) ?_ | refine EW.eMove ?_); (first | refine EW.eSkipT (j := 1) ?_ | refine EW.eSkipU (j := 1) ?_ | refine EW.eEql ?_); (first | refine EW.ePickT ?_ | refine EW.ePickF ?_); refine EW.eMove ?_)
  all_goals try (refine EW.eGuard (j := 5) (o := ⟨some 89, _, _, _, _, _⟩) ?_ ?_ <;> (intro hb hb'; (try dsimp only at hb'); (try (exfalso; first | omega | with_reducible exact absurd rfl hb'))))
  all_goals try ((first | refine EW.eSkipT (j := 5) ?_ | refine EW.eSkipU (j := 5) ?_ | refine EW.eMove ?_); (first | refine EW.eSkipT (j := 5) ?_ | refine EW.eSkipU (j := 5) ?_ | refine EW.eEql ?_); (first | refine EW.ePickT ?_ | refine EW.ePickF ?_); refine EW.eMove ?_)
  all_goals try (refine EW.eGuard (j := 9) (o := ⟨some 93, _, _, _, _, _⟩) ?_ ?_ <;> (intro hb hb'; (try dsimp only at hb'); (try (exfalso; first | omega | with_reducible exact absurd rfl hb'))))
  all_goals try ((first | refine EW.eSkipT (j := 9) ?_ | refine EW.eSkipU (j := 9) ?_ | refine EW.eLoadA (k := 16) ?_); (first | refine EW.eSkipT (j := 9) ?_ | refine EW.eSkipU (j := 9) ?_ | refine EW.eLoadA (k := 16) ?_); (first | refine EW.eSkipT (j := 9) ?_ | refine EW.eSkipU (j := 9) ?_ | refine EW.eEqlA ?_); (first | refine EW.ePickT ?_ | refine EW.ePickF ?_); refine EW.eMove ?_)
  all_goals try (refine EW.eGuard (j := 14) (o := ⟨some 98, _, _, _, _, _⟩) ?_ ?_ <;> (intro hb hb'; (try dsimp only at hb'); (try (exfalso; first | omega | with_reducible exact absurd rfl hb'))))
  all_goals try ((first | refine EW.eSkipT (j := 14) ?_ | refine EW.eSkipU (j := 14) ?_ | refine EW.eLoadA (k := 16) ?_); (first | refine EW.eSkipT (j := 14) ?_ | refine EW.eSkipU (j := 14) ?_ | refine EW.eLoadA (k := 16) ?_); (first | refine EW.eSkipT (j := 14) ?_ | refine EW.eSkipU (j := 14) ?_ | refine EW.eEqlA ?_); (first | refine EW.ePickT ?_ | refine EW.ePickF ?_); refine EW.eMove ?_)
  all_goals try (refine EW.eGuard (j := 19) (o := ⟨some 103, _, _, _, _, _⟩) ?_ ?_ <;> (intro hb hb'; (try dsimp only at hb'); (try (exfalso; first | omega | with_reducible exact absurd rfl hb'))))
  all_goals try ((first | refine EW.eSkipT (j := 19) ?_ | refine EW.eSkipU (j := 19) ?_ | refine EW.eMove ?_); (first | refine EW.eSkipT (j := 19) ?_ | refine EW.eSkipU (j := 19) ?_ | refine EW.eEql ?_); (first | refine EW.eSkipT (j := 19) ?_ | refine EW.eSkipU (j := 19) ?_ | refine EW.eMove ?_); (first | refine EW.eSkipT (j := 19) ?_ | refine EW.eSkipU (j := 19) ?_ | refine EW.eEqlB ?_); (first | refine EW.ePickT ?_ | refine EW.ePickF ?_); refine EW.eMove ?_)
  all_goals try (refine EW.eGuard (j := 25) (o := ⟨some 109, _, _, _, _, _⟩) ?_ ?_ <;> (intro hb hb'; (try dsimp only at hb'); (try (exfalso; first | omega | with_reducible exact absurd rfl hb'))))
  all_goals try ((first | refine EW.eSkipT (j := 25) ?_ | refine EW.eSkipU (j := 25) ?_ | refine EW.eMove ?_); (first | refine EW.eSkipT (j := 25) ?_ | refine EW.eSkipU (j := 25) ?_ | refine EW.eNot ?_); (first | refine EW.eSkipT (j := 25) ?_ | refine EW.eSkipU (j := 25) ?_ | refine EW.eMove ?_))
  all_goals try (refine EW.eGuard (j := 28) (o := ⟨some 112, _, _, _, _, _⟩) ?_ ?_ <;> (intro hb hb'; (try dsimp only at hb'); (try (exfalso; first | omega | with_reducible exact absurd rfl hb'))))
  all_goals try ((first | refine EW.eSkipF (j := 28) ?_ | refine EW.eSkipU (j := 28) ?_ | refine EW.eLoadA (k := 4) ?_); (first | refine EW.eSkipF (j := 28) ?_ | refine EW.eSkipU (j := 28) ?_ | refine EW.eLoadA (k := 4) ?_); (first | refine EW.eSkipF (j := 28) ?_ | refine EW.eSkipU (j := 28) ?_ | refine EW.eEqlA ?_); (first | refine EW.eSkipT (j := 25) ?_ | refine EW.eSkipU (j := 25) ?_ | refine EW.ePickT ?_ | refine EW.ePickF ?_); (first | refine EW.ePickT ?_ | refine EW.ePickF ?_); refine EW.eAssign ?_; refine EW.eEnd ?_; (try refine EW.nm ?_))
  all_goals (refine EW.eLeaveP ?_; intro w' hW; refine ⟨?_, hW⟩)
  all_goals rfl
theorem appV_len' (m v : List Int) : (appV m v).length = 4 := appV_len m v
theorem mulV_len (a b : List Int) : (mulV a b).length = 16 := by unfold mulV; split <;> simp [outP_len]
theorem across_ok {l : List Int} (h : Ok64 l) : Ok64 (acrossL l) := fun i => by
  rcases Nat.lt_or_ge i 16 with hi | hi
  · rw [across_get hi]; exact h _
  · rw [List.getD_eq_getElem?_getD, List.getElem?_eq_none (by rw [acrossL, outP_len]; exact hi)]; simp
theorem idL_ok : Ok64 idL := ok_of (by decide)
theorem neutral (a b : List Int) (v0 v1 v2 v3 : Int) (w : World) (ha : Ok64 a) (kb : Ok64 b) (kv : Ok64 [v0, v1, v2, v3]) (la : a.length = 16) (lb : b.length = 16) : Calls Try.prog 6 #[Nm a, Nm b, Nm [v0, v1, v2, v3]] w fun e w' => e = .returned (.bool true) ∧ Below w.heap.size w w' := by
  obtain ⟨o1, o2⟩ := mulV_one la
  obtain ⟨i1, i2⟩ := mulV_id la
  obtain ⟨x1, x2⟩ := mul_across la lb
  obtain ⟨p1, p2⟩ := app_one (v := [v0, v1, v2, v3]) rfl
  have hE : mulE (acrossL b) (acrossL a) = mulE a b := by unfold mulE; by_cases h : mulOk a b <;> simp [h, x1]
  refine neutral_walk a b (mulV a idL) (mulV idL a) (mulV a b) (mulV (acrossL b) (acrossL a)) (appV idL [v0, v1, v2, v3]) (acrossL a) (acrossL b) v0 v1 v2 v3 (mulE a idL) (mulE idL a) (mulE a b) (mulE (acrossL b) (acrossL a)) (appE idL [v0, v1, v2, v3]) (if within 4611686018427387904 a then 0 else 30) (if within 4611686018427387904 (vec16 [v0, v1, v2, v3]) then 0 else 30) w la lb (mulV_len _ _) (mulV_len _ _) (mulV_len _ _) (mulV_len _ _) (appV_len _ _) ⟨hE.symm, ?_⟩ ?_ ?_
    (fun w => mmul a idL w ha idL_ok la rfl) (fun w => mmul idL a w idL_ok ha rfl la) (fun w => mmul a b w ha kb la lb) (fun w => mmul (acrossL b) (acrossL a) w (across_ok kb) (across_ok ha) (outP_len _ _ _) (outP_len _ _ _)) (fun w => across_list b w lb) (fun w => across_list a w la) (fun h w => ?_) (fun w => mcheck a _ w la (by omega) (by omega)) (fun w => mcheck _ _ w rfl (by omega) (by omega)) (fun w => mapply idL _ w idL_ok kv rfl rfl)
  · unfold mulE; split <;> simp
  · by_cases h : Wm 16 a
    · left
      refine ⟨if_pos ((within_W la).2 h), if_pos (o1.2 h), if_pos (i1.2 h), o2 h, i2 h⟩
    · right
      exact ⟨if_neg fun h' => h ((within_W la).1 h'), if_neg fun h' => h (o1.1 h'), if_neg fun h' => h (i1.1 h')⟩
  · by_cases h : Wm 4 [v0, v1, v2, v3]
    · left; exact ⟨if_pos (p1.2 h), if_pos ((within_V rfl).2 h), p2 h⟩
    · right; exact ⟨if_neg fun h' => h (p1.1 h'), if_neg fun h' => h ((within_V rfl).1 h')⟩
  · have hok : mulOk a b := by
      unfold mulE at h; by_cases h' : mulOk a b
      · exact h'
      · rw [if_neg h'] at h; omega
    have := across_list (mulV a b) w (mulV_len _ _)
    rwa [x2 hok] at this
theorem ok_nil : Ok64 [] := fun i => by simp
theorem ok_cons {x : Int} {l : List Int} (h : -9223372036854775808 ≤ x ∧ x ≤ 9223372036854775807) (k : Ok64 l) : Ok64 (x :: l) := fun i => by
  cases i with
  | zero => exact h
  | succ i => exact k i
theorem neutral_any (w : World) (a0 a1 a2 a3 a4 a5 a6 a7 a8 a9 aa ab ac ad ae af b0 b1 b2 b3 b4 b5 b6 b7 b8 b9 ba bb bc bd be bf v0 v1 v2 v3 : Int) (l_a0 : -9223372036854775808 ≤ a0) (h_a0 : a0 ≤ 9223372036854775807) (l_a1 : -9223372036854775808 ≤ a1) (h_a1 : a1 ≤ 9223372036854775807) (l_a2 : -9223372036854775808 ≤ a2) (h_a2 : a2 ≤ 9223372036854775807) (l_a3 : -9223372036854775808 ≤ a3) (h_a3 : a3 ≤ 9223372036854775807) (l_a4 : -9223372036854775808 ≤ a4) (h_a4 : a4 ≤ 9223372036854775807) (l_a5 : -9223372036854775808 ≤ a5) (h_a5 : a5 ≤ 9223372036854775807) (l_a6 : -9223372036854775808 ≤ a6) (h_a6 : a6 ≤ 9223372036854775807) (l_a7 : -9223372036854775808 ≤ a7) (h_a7 : a7 ≤ 9223372036854775807) (l_a8 : -9223372036854775808 ≤ a8) (h_a8 : a8 ≤ 9223372036854775807) (l_a9 : -9223372036854775808 ≤ a9) (h_a9 : a9 ≤ 9223372036854775807) (l_aa : -9223372036854775808 ≤ aa) (h_aa : aa ≤ 9223372036854775807) (l_ab : -9223372036854775808 ≤ ab) (h_ab : ab ≤ 9223372036854775807) (l_ac : -9223372036854775808 ≤ ac) (h_ac : ac ≤ 9223372036854775807) (l_ad : -9223372036854775808 ≤ ad) (h_ad : ad ≤ 9223372036854775807) (l_ae : -9223372036854775808 ≤ ae) (h_ae : ae ≤ 9223372036854775807) (l_af : -9223372036854775808 ≤ af) (h_af : af ≤ 9223372036854775807) (l_b0 : -9223372036854775808 ≤ b0) (h_b0 : b0 ≤ 9223372036854775807) (l_b1 : -9223372036854775808 ≤ b1) (h_b1 : b1 ≤ 9223372036854775807) (l_b2 : -9223372036854775808 ≤ b2) (h_b2 : b2 ≤ 9223372036854775807) (l_b3 : -9223372036854775808 ≤ b3) (h_b3 : b3 ≤ 9223372036854775807) (l_b4 : -9223372036854775808 ≤ b4) (h_b4 : b4 ≤ 9223372036854775807) (l_b5 : -9223372036854775808 ≤ b5) (h_b5 : b5 ≤ 9223372036854775807) (l_b6 : -9223372036854775808 ≤ b6) (h_b6 : b6 ≤ 9223372036854775807) (l_b7 : -9223372036854775808 ≤ b7) (h_b7 : b7 ≤ 9223372036854775807) (l_b8 : -9223372036854775808 ≤ b8) (h_b8 : b8 ≤ 9223372036854775807) (l_b9 : -9223372036854775808 ≤ b9) (h_b9 : b9 ≤ 9223372036854775807) (l_ba : -9223372036854775808 ≤ ba) (h_ba : ba ≤ 9223372036854775807) (l_bb : -9223372036854775808 ≤ bb) (h_bb : bb ≤ 9223372036854775807) (l_bc : -9223372036854775808 ≤ bc) (h_bc : bc ≤ 9223372036854775807) (l_bd : -9223372036854775808 ≤ bd) (h_bd : bd ≤ 9223372036854775807) (l_be : -9223372036854775808 ≤ be) (h_be : be ≤ 9223372036854775807) (l_bf : -9223372036854775808 ≤ bf) (h_bf : bf ≤ 9223372036854775807) (l_v0 : -9223372036854775808 ≤ v0) (h_v0 : v0 ≤ 9223372036854775807) (l_v1 : -9223372036854775808 ≤ v1) (h_v1 : v1 ≤ 9223372036854775807) (l_v2 : -9223372036854775808 ≤ v2) (h_v2 : v2 ≤ 9223372036854775807) (l_v3 : -9223372036854775808 ≤ v3) (h_v3 : v3 ≤ 9223372036854775807) : Calls Try.prog 6 #[.agg #[.int .i64 a0, .int .i64 a1, .int .i64 a2, .int .i64 a3, .int .i64 a4, .int .i64 a5, .int .i64 a6, .int .i64 a7, .int .i64 a8, .int .i64 a9, .int .i64 aa, .int .i64 ab, .int .i64 ac, .int .i64 ad, .int .i64 ae, .int .i64 af], .agg #[.int .i64 b0, .int .i64 b1, .int .i64 b2, .int .i64 b3, .int .i64 b4, .int .i64 b5, .int .i64 b6, .int .i64 b7, .int .i64 b8, .int .i64 b9, .int .i64 ba, .int .i64 bb, .int .i64 bc, .int .i64 bd, .int .i64 be, .int .i64 bf], .agg #[.int .i64 v0, .int .i64 v1, .int .i64 v2, .int .i64 v3]] w fun e w' => e = .returned (.bool true) ∧ Below w.heap.size w w' :=
  neutral [a0, a1, a2, a3, a4, a5, a6, a7, a8, a9, aa, ab, ac, ad, ae, af] [b0, b1, b2, b3, b4, b5, b6, b7, b8, b9, ba, bb, bc, bd, be, bf] v0 v1 v2 v3 w (ok_cons ⟨l_a0, h_a0⟩ (ok_cons ⟨l_a1, h_a1⟩ (ok_cons ⟨l_a2, h_a2⟩ (ok_cons ⟨l_a3, h_a3⟩ (ok_cons ⟨l_a4, h_a4⟩ (ok_cons ⟨l_a5, h_a5⟩ (ok_cons ⟨l_a6, h_a6⟩ (ok_cons ⟨l_a7, h_a7⟩ (ok_cons ⟨l_a8, h_a8⟩ (ok_cons ⟨l_a9, h_a9⟩ (ok_cons ⟨l_aa, h_aa⟩ (ok_cons ⟨l_ab, h_ab⟩ (ok_cons ⟨l_ac, h_ac⟩ (ok_cons ⟨l_ad, h_ad⟩ (ok_cons ⟨l_ae, h_ae⟩ (ok_cons ⟨l_af, h_af⟩ ok_nil)))))))))))))))) (ok_cons ⟨l_b0, h_b0⟩ (ok_cons ⟨l_b1, h_b1⟩ (ok_cons ⟨l_b2, h_b2⟩ (ok_cons ⟨l_b3, h_b3⟩ (ok_cons ⟨l_b4, h_b4⟩ (ok_cons ⟨l_b5, h_b5⟩ (ok_cons ⟨l_b6, h_b6⟩ (ok_cons ⟨l_b7, h_b7⟩ (ok_cons ⟨l_b8, h_b8⟩ (ok_cons ⟨l_b9, h_b9⟩ (ok_cons ⟨l_ba, h_ba⟩ (ok_cons ⟨l_bb, h_bb⟩ (ok_cons ⟨l_bc, h_bc⟩ (ok_cons ⟨l_bd, h_bd⟩ (ok_cons ⟨l_be, h_be⟩ (ok_cons ⟨l_bf, h_bf⟩ ok_nil)))))))))))))))) (ok_cons ⟨l_v0, h_v0⟩ (ok_cons ⟨l_v1, h_v1⟩ (ok_cons ⟨l_v2, h_v2⟩ (ok_cons ⟨l_v3, h_v3⟩ ok_nil)))) rfl rfl
end Go.Proofs.Ytgjbhocahpplbaa
