/- The document's Parse. -/
import Derived.Test.YtbjogekhedglgaaHWt4
namespace Go.Proofs.Ytbjogekhedglgaa
set_option linter.unusedSimpArgs false
set_option linter.unusedVariables false
open Go.RowKit EV
open SX (Wr Tv Qu Rm Sh Is conjP eqs_iff eqs_false)
open EW (PlL PlT PlV PlVs LfV Mm Bt Opn GV nums)
set_option maxRecDepth 20000
theorem u8_back {x : Int} (h : 0 ≤ x ∧ x < 256) : ((UInt8.ofNat x.toNat).toNat : Int) = x := by
  rw [UInt8.toNat_ofNat']; omega
namespace EW
variable {c : Ctx} {F : Fence} {nn : Nat} {id : Nat} {ops : Array Oper} {draw : Bool} {Q : Exit → Act → World → Prop} {σ0 σ s : Sf} {i : Nat} {rest : List Oper} {tr : List Tr} {sup : List Nat} {e : Env} {a : Act} {w : World}
/-- A byte of a text. -/
theorem eIdxU [hF : WideLike F] {d : Tmp} {x y : Operand} {l : List Int} {k : IntKind} {j : Int} {m : Nat} {t : TypeId} {rt : TypeId} {pos : String} {af : Array Edge} {g : Option (Nat × Bool)} {gk : List Key} (hb : By l)
    (hr : RX c F nn id ops draw Q σ0 (i + 1) rest (upd σ [(.t d, .v (.c (.v (.int .u8 (l.getD m 0)))))]) (⟨orR gk (kr (opk x ++ opk y)), [(.t d, .v (.c (.v (.int .u8 (l.getD m 0)))))]⟩ :: tr) sup)
    (hG : GOk ops σ g gk := by (first | apply GOk.none | (apply GOk.some; (· rfl); (· rfl); (· (first | with_reducible rfl | with_reducible assumption))))) (hx : opv σ x = some (.c (.v (.string ⟨(U l).toArray⟩))) := by rfl) (hy : opv σ y = some (.c (.v (.int k j))) := by rfl) (h0 : 0 ≤ j := by (first | omega | (simp only [EW.nums_len, List.length_cons, List.length_nil, List.length_append, List.length_map, List.length_set, List.length_replicate, List.length_take, List.length_drop, List.length_range, EV.putL_length, Nat.reduceAdd, Nat.reduceMul, Nat.reduceSub]; omega) | (simp only [EW.nums_len, List.length_cons, List.length_nil, List.length_append, List.length_map, List.length_set, List.length_replicate, List.length_take, List.length_drop, List.length_range, EV.putL_length, Nat.reduceAdd, Nat.reduceMul, Nat.reduceSub] at *; omega))) (hu : c.P.underlying t = some .string := by rfl) (hm : j.toNat = m := by first | rfl | omega) (hj : m < l.length := by (first | exact Nat.le_of_ble_eq_true rfl | rfl | omega | exact EW.lenLe (by omega) | exact EW.lenEq (by omega) | (rw [EW.RowL.len]; omega) | (rw [EW.Elems.len]; omega) | (simp only [EW.nums_len, List.length_cons, List.length_nil, List.length_append, List.length_map, List.length_set, List.length_replicate, List.length_take, List.length_drop, List.length_range, EV.putL_length, Nat.reduceAdd, Nat.reduceMul, Nat.reduceSub]; (first | done | fail)) | (simp only [EW.nums_len, List.length_cons, List.length_nil, List.length_append, List.length_map, List.length_set, List.length_replicate, List.length_take, List.length_drop, List.length_range, EV.putL_length, Nat.reduceAdd, Nat.reduceMul, Nat.reduceSub]; omega) | (simp only [EW.nums_len, List.length_cons, List.length_nil, List.length_append, List.length_map, List.length_set, List.length_replicate, List.length_take, List.length_drop, List.length_range, EV.putL_length, Nat.reduceAdd, Nat.reduceMul, Nat.reduceSub] at *; omega))) (hN : dOk c.N (some d) = true := by rfl) :
    RX c F nn id ops draw Q σ0 i (⟨some d, .index t x y, rt, pos, af, g⟩ :: rest) σ tr sup := by
  subst hm
  have e1 : (U l)[j.toNat]? = some (UInt8.ofNat (l.getD j.toNat 0).toNat) := by
    rw [U, List.getElem?_map, List.getElem?_eq_getElem hj, List.getD_eq_getElem?_getD, List.getElem?_eq_getElem hj]; rfl
  have e2 := u8_back (by_get hb hj)
  exact eIdxT (u := UInt8.ofNat (l.getD j.toNat 0).toNat) (by rw [e2]; exact hr) hG hx hy h0 hu e1 hN
/-- How long a text is. -/
theorem eLenU [hF : WideLike F] {d : Tmp} {x : Operand} {l : List Int} {t : TypeId} {rt : TypeId} {pos : String} {af : Array Edge} {g : Option (Nat × Bool)} {gk : List Key}
    (hr : RX c F nn id ops draw Q σ0 (i + 1) rest (upd σ [(.t d, .v (.c (.v (.int .i64 (l.length : Nat)))))]) (⟨orR gk (kr (opk x)), [(.t d, .v (.c (.v (.int .i64 (l.length : Nat)))))]⟩ :: tr) sup)
    (hG : GOk ops σ g gk := by (first | apply GOk.none | (apply GOk.some; (· rfl); (· rfl); (· (first | with_reducible rfl | with_reducible assumption))))) (hx : opv σ x = some (.c (.v (.string ⟨(U l).toArray⟩))) := by rfl) (hu : c.P.underlying t = some .string := by rfl) (hN : dOk c.N (some d) = true := by rfl) :
    RX c F nn id ops draw Q σ0 i (⟨some d, .call ⟨.builtin .len, #[x], #[t]⟩, rt, pos, af, g⟩ :: rest) σ tr sup :=
  eLenT (m := l.length) hr hG hx hu ⟨by simp [U]⟩ hN
end EW
theorem rstepM (m : Nat) (w : World) (h : m < 1000000000000000000000000000000000000000) : Calls Try.prog 11 #[Bg false m, BZ 10] w fun e w' => e = .returned (Bg false (m * 10)) ∧ Below w.heap.size w w' := by
  have := rmulZ (m : Int) 10 w (by omega) (by omega)
  rw [show (m : Int) * 10 = ((m * 10 : Nat) : Int) by omega, bz_nat, bz_nat] at this
  exact this
theorem rstepA (m k : Nat) (d : Int) (w : World) (h : m < 10000000000000000000000000000000000000000) (hd : 0 ≤ d ∧ d ≤ 9) (hk : (k : Int) = (m : Int) + d) : Calls Try.prog 15 #[Bg false m, BZ d] w fun e w' => e = .returned (Bg false k) ∧ Below w.heap.size w w' := by
  have hW := W20_nine
  have := radd (m : Int) d w (by omega)
  rw [← hk, bz_nat, bz_nat] at this
  exact this
theorem dg_get {l : List Int} (hb : Dg l) {i : Nat} (h : i < l.length) : 48 ≤ l.getD i 0 ∧ l.getD i 0 ≤ 57 := by
  refine hb _ ?_
  rw [List.getD_eq_getElem?_getD, List.getElem?_eq_getElem h]; exact List.getElem_mem h
theorem pv_39 {l : List Int} (h : Dg l) {i m : Nat} (hi : i ≤ l.length) (h39 : i ≤ 39) (hm : (m : Int) = pv l i) : m < 1000000000000000000000000000000000000000 := by
  have h1 := (pv_bnd h i hi).2
  have h2 := Nat.pow_le_pow_right (show 10 > 0 by omega) h39
  omega
set_option maxHeartbeats 2000000 in
theorem rparse_walk (s t txt : List Int) (a n N : Nat) (B r : Bool) (Va Ea Vc Ec : Int) (w : World) (hs : By s) (hl : s.length = a + t.length) (h39 : t.length ≤ 39) (hg : ∀ i, i < t.length → s.getD (a + i) 0 = t.getD i 0) (ht : Dg t) (ha : (a = 1 ∧ 0 < s.length ∧ s.getD 0 0 = 45) ∨ (a = 0 ∧ (s.length = 0 ∨ s.getD 0 0 ≠ 45))) (hn : (n : Int) = pv t t.length) (hB0 : a = 0 → B = false ∧ N = n) (hB1 : a = 1 → ∀ w, Calls Try.prog 17 #[Bg false n] w fun e w' => e = .returned (Bg B N) ∧ Below w.heap.size w w') (hX : ∀ w, Calls Try.prog 33 #[Bg B N] w fun e w' => e = .returned (tS (U txt)) ∧ Below w.heap.size w w') (hr : Tv (!(U txt == U s)) r) (hC : ∀ w, Calls Try.prog 14 #[Bg B N] w fun e w' => e = .returned (.tuple #[W2 Vc, .int .i64 Ec]) ∧ Below w.heap.size w w') (hV : if r then Va = 0 ∧ Ea = 20 else Va = Vc ∧ Ea = Ec) : Calls Try.prog 30 #[tS (U s)] w fun e w' => e = .returned (.tuple #[W2 Va, .int .i64 Ea]) ∧ Below w.heap.size w w' := by
  cases r
  all_goals
    simp only [Bool.false_eq_true, if_false, if_true] at hV
    obtain ⟨rfl, rfl⟩ := hV
    refine EW.eEnter Try.func30 rfl Try.ntmps30 ?_
    all_goals try (refine EW.nm ?_)
    all_goals try ((first | refine EW.eRegL (id := 0) ?_ | refine EW.eReg (id := 0) ?_); refine EW.eAlloc ?_; refine EW.eAssign ?_; refine EW.eEnd ?_; (try refine EW.nm ?_))
    all_goals try ((first | refine EW.eRegL (id := 1) ?_ | refine EW.eReg (id := 1) ?_); refine EW.eAssign ?_; refine EW.eEnd ?_; (try refine EW.nm ?_))
    all_goals try ((first | refine EW.eRegL (id := 2) ?_ | refine EW.eReg (id := 2) ?_); refine EW.eMove ?_; refine EW.eLenU ?_; refine EW.eGtr ?_; refine EW.eMove ?_)
    all_goals try (refine EW.eGuard (j := 3) (o := ⟨some 11, _, _, _, _, _⟩) ?_ ?_ <;> (intro hb hb'; (try dsimp only at hb'); (try (exfalso; first | omega | with_reducible exact absurd rfl hb'))))
    all_goals try ((first | refine EW.eSkipT (j := 3) ?_ | refine EW.eSkipU (j := 3) ?_ | refine EW.eMove ?_); (first | refine EW.eSkipT (j := 3) ?_ | refine EW.eSkipU (j := 3) ?_ | refine EW.eIdxU hs (m := 0) ?_); (first | refine EW.eSkipT (j := 3) ?_ | refine EW.eSkipU (j := 3) ?_ | refine EW.eEql ?_); (first | refine EW.ePickT ?_ | refine EW.ePickF ?_); refine EW.eEnd ?_; (try refine EW.nm ?_))
    all_goals try (first | refine EW.eYes (x := Operand.tmp 14) ?_ | refine EW.eNo (x := Operand.tmp 14) ?_ | (refine EW.eCond (x := Operand.tmp 14) ?_ ?_ <;> (intro hb hb'; (try dsimp only at hb'); (try (exfalso; first | omega | with_reducible exact absurd rfl hb')))))
    all_goals try (refine EW.nm ?_)
    all_goals try ((first | refine EW.eRegL (id := 3) ?_ | refine EW.eReg (id := 3) ?_); refine EW.eAssign ?_; refine EW.eEnd ?_; (try refine EW.nm ?_))
    all_goals (refine EW.eEqT 4 (.c (.v (.int .i64 (a : Int)))) ?_ ?_; (focus (first | (obtain rfl : a = 1 := (by omega); rfl) | (obtain rfl : a = 0 := (by omega); rfl))))
    all_goals try ((first | refine EW.eRegL (id := 4) ?_ | refine EW.eReg (id := 4) ?_); refine EW.eMove ?_; refine EW.eLenU ?_; refine EW.eMove ?_; refine EW.eSub ?_; refine EW.eGtr ?_; refine EW.eEnd ?_; (try refine EW.nm ?_))
    all_goals try (first | refine EW.eYes (x := Operand.tmp 19) ?_ | refine EW.eNo (x := Operand.tmp 19) ?_ | (refine EW.eCond (x := Operand.tmp 19) ?_ ?_ <;> (intro hb hb'; (try dsimp only at hb'); (try (exfalso; first | omega | with_reducible exact absurd rfl hb')))))
    all_goals try (refine EW.nm ?_)
    all_goals try ((first | refine EW.eRegL (id := 5) ?_ | refine EW.eReg (id := 5) ?_); refine EW.eBuild (place := fun i => [(0, 1), (1, 1)][i]?) ?_; (first | refine EW.eStoreW (k := 2) ?_ | refine EW.eStore (k := 2) ?_); refine EW.eAssign ?_; refine EW.eEnd ?_; (try refine EW.nm ?_))
    all_goals try ((first | refine EW.eRegL (id := 6) ?_ | refine EW.eReg (id := 6) ?_); refine EW.eAlloc ?_; refine EW.eEnd ?_; (try refine EW.nm ?_))
    all_goals (try (refine EW.eEqB 20 (.m true ((big false 0).map C.v)) ?_ ?_; (focus rfl)))
    all_goals try ((first | refine EW.eRegL (id := 7) ?_ | refine EW.eReg (id := 7) ?_); refine EW.eMove ?_; refine EW.eAssign ?_; refine EW.eEnd ?_; (try refine EW.nm ?_))
    all_goals first | (fail_if_success (refine EW.eUnroll 1 ?_)) | (refine EW.eLoopD [3, 6, 22, 23, 24, 25, 26, 27, 28, 29, 30, 31, 32, 33, 34, 35, 36, 37, 38, 39, 40, 41, 42, 43, 44, 45, 46, 47, 48] 1000000 (fun j : {x : Nat × Nat // x.1 ≤ t.length ∧ (x.2 : Int) = pv t x.1} => [(.t 6, .v (.c (.v (.int .i64 ((a + j.1.1 : Nat) : Int))))), (.b 20, .b (.m true ((big false j.1.2).map C.v)))]) (fun j => t.length - j.1.1) (⟨(0, 0), Nat.zero_le _, by rw [pv_zero]; rfl⟩) (by ((repeat (first | exact EW.subW.nil | refine EW.subW.cons rfl ?_ | refine EW.subW.conv rfl ?_)); (first | done | fail))) ?_; rintro hcl8 ⟨⟨i, m⟩, hi, hm⟩; (try dsimp only))
    all_goals try (refine EW.nm ?_)
    all_goals try ((first | refine EW.eRegL (id := 8) ?_ | refine EW.eReg (id := 8) ?_); refine EW.eMove ?_; refine EW.eMove ?_; refine EW.eLenU ?_; refine EW.eLss ?_; refine EW.eEnd ?_; (try refine EW.nm ?_))
    all_goals try (first | refine EW.eYes (x := Operand.tmp 25) ?_ | refine EW.eNo (x := Operand.tmp 25) ?_ | (refine EW.eCond (x := Operand.tmp 25) ?_ ?_ <;> (intro hb hb'; (try dsimp only at hb'); (try (exfalso; first | omega | with_reducible exact absurd rfl hb')))))
    all_goals try (refine EW.nm ?_)
    all_goals (try ((try dsimp only at hi hm); have hgi := hg i (by omega); obtain ⟨c0, c1⟩ := dg_get ht (i := i) (by omega); have hm39 := pv_39 ht (i := i) (by omega) (by omega) hm; have hps := pv_succ (l := t) (i := i) (by omega); have hMu := (fun w => rstepM m w hm39)))
    all_goals try ((first | refine EW.eRegL (id := 10) ?_ | refine EW.eReg (id := 10) ?_); refine EW.eMove ?_; refine EW.eMove ?_; refine EW.eIdxU hs (m := a + i) (hm := by omega) ?_; refine EW.eLss ?_; refine EW.eMove ?_)
    all_goals try (refine EW.eGuard (j := 4) (o := ⟨some 33, _, _, _, _, _⟩) ?_ ?_ <;> (intro hb hb'; (try dsimp only at hb'); (try (exfalso; first | omega | with_reducible exact absurd rfl hb'))))
    all_goals try ((first | refine EW.eSkipF (j := 4) ?_ | refine EW.eSkipU (j := 4) ?_ | refine EW.eMove ?_); (first | refine EW.eSkipF (j := 4) ?_ | refine EW.eSkipU (j := 4) ?_ | refine EW.eMove ?_); (first | refine EW.eSkipF (j := 4) ?_ | refine EW.eSkipU (j := 4) ?_ | refine EW.eIdxU hs (m := a + i) (hm := by omega) ?_); (first | refine EW.eSkipF (j := 4) ?_ | refine EW.eSkipU (j := 4) ?_ | refine EW.eGtr ?_); (first | refine EW.ePickT ?_ | refine EW.ePickF ?_); refine EW.eEnd ?_; (try refine EW.nm ?_))
    all_goals try (first | refine EW.eYes (x := Operand.tmp 37) ?_ | refine EW.eNo (x := Operand.tmp 37) ?_ | (refine EW.eCond (x := Operand.tmp 37) ?_ ?_ <;> (intro hb hb'; (try dsimp only at hb'); (try (exfalso; first | omega | with_reducible exact absurd rfl hb')))))
    all_goals try (refine EW.nm ?_)
    all_goals try ((first | refine EW.eRegL (id := 11) ?_ | refine EW.eReg (id := 11) ?_); refine EW.eBuild (place := fun i => [(0, 1), (1, 1)][i]?) ?_; (first | refine EW.eStoreW (k := 2) ?_ | refine EW.eStore (k := 2) ?_); refine EW.eAssign ?_; refine EW.eEnd ?_; (try refine EW.nm ?_))
    all_goals try ((first | refine EW.eRegL (id := 12) ?_ | refine EW.eReg (id := 12) ?_); refine EW.eLoadA (k := 21) ?_; (first | refine EW.eCall Try.call12 (fun w => rof 10 w (by omega) (by omega)) ?_ | refine EW.eCall Try.call12 (fun w => rof (s.getD (a + i) 0 - 48) w (by omega) (by omega)) ?_); refine EW.eCall Try.call11 (fun w => hMu w) ?_; refine EW.eMove ?_; refine EW.eMove ?_; refine EW.eIdxU hs (m := a + i) (hm := by omega) ?_; refine EW.eConv ?_; refine EW.eSub ?_; (first | refine EW.eCall Try.call12 (fun w => rof 10 w (by omega) (by omega)) ?_ | refine EW.eCall Try.call12 (fun w => rof (s.getD (a + i) 0 - 48) w (by omega) (by omega)) ?_); refine EW.eCall Try.call15 (fun w => rstepA (m * 10) (pv t (i + 1)).toNat (s.getD (a + i) 0 - 48) w (by omega) (by omega) (by omega)) ?_; (first | refine EW.eStoreW (k := 21) ?_ | refine EW.eStore (k := 21) ?_); refine EW.eDraw ?_; (try refine EW.nm ?_))
    all_goals try ((first | refine EW.eRegL (id := 9) ?_ | refine EW.eReg (id := 9) ?_); refine EW.eMove ?_; refine EW.eAdd ?_; refine EW.eAssign ?_; refine EW.eEnd ?_; (try refine EW.nm ?_))
    all_goals first | (fail_if_success (with_reducible refine EW.isLater ?_)) | (refine EW.eLaterD (⟨(i + 1, (pv t (i + 1)).toNat), by omega, by dsimp only; omega⟩) (by dsimp only; omega) (by ((repeat (first | exact EW.subW.nil | refine EW.subW.cons rfl ?_ | refine EW.subW.conv rfl ?_)); (first | done | fail))) hcl8)
    all_goals try (refine EW.nm ?_)
    all_goals (try ((try dsimp only at hi hm); obtain rfl : i = t.length := (by omega); obtain rfl : m = n := (by omega)))
    all_goals try ((first | refine EW.eRegL (id := 13) ?_ | refine EW.eReg (id := 13) ?_); refine EW.eMove ?_; refine EW.eEql ?_; refine EW.eEnd ?_; (try refine EW.nm ?_))
    all_goals try (first | refine EW.eYes (x := Operand.tmp 50) ?_ | refine EW.eNo (x := Operand.tmp 50) ?_ | (refine EW.eCond (x := Operand.tmp 50) ?_ ?_ <;> (intro hb hb'; (try dsimp only at hb'); (try (exfalso; first | omega | with_reducible exact absurd rfl hb')))))
    all_goals try (refine EW.nm ?_)
    all_goals (try (have h1 : a = 1 := (by omega); have hNg := hB1 h1))
    all_goals try ((first | refine EW.eRegL (id := 14) ?_ | refine EW.eReg (id := 14) ?_); refine EW.eLoadA (k := 21) ?_; refine EW.eCall Try.call17 (fun w => hNg w) ?_; (first | refine EW.eStoreW (k := 21) ?_ | refine EW.eStore (k := 21) ?_); refine EW.eEnd ?_; (try refine EW.nm ?_))
    all_goals (try (have h0 : a = 0 := (by omega); obtain ⟨rfl, rfl⟩ := hB0 h0))
    all_goals try ((first | refine EW.eRegL (id := 15) ?_ | refine EW.eReg (id := 15) ?_); refine EW.eLoadA (k := 21) ?_; refine EW.eCall Try.call33 (fun w => hX w) ?_; refine EW.eMove ?_; refine EW.eStrNe (hr' := hr) ?_; refine EW.eEnd ?_; (try refine EW.nm ?_))
    all_goals try (first | refine EW.eYes (x := Operand.tmp 56) ?_ | refine EW.eNo (x := Operand.tmp 56) ?_ | (refine EW.eCond (x := Operand.tmp 56) ?_ ?_ <;> (intro hb hb'; (try dsimp only at hb'); (try (exfalso; first | omega | with_reducible exact absurd rfl hb')))))
    all_goals try (refine EW.nm ?_)
    all_goals try ((first | refine EW.eRegL (id := 16) ?_ | refine EW.eReg (id := 16) ?_); refine EW.eBuild (place := fun i => [(0, 1), (1, 1)][i]?) ?_; (first | refine EW.eStoreW (k := 2) ?_ | refine EW.eStore (k := 2) ?_); refine EW.eAssign ?_; refine EW.eEnd ?_; (try refine EW.nm ?_))
    all_goals try ((first | refine EW.eRegL (id := 17) ?_ | refine EW.eReg (id := 17) ?_); refine EW.eLoadA (k := 21) ?_; refine EW.eCall Try.call14 (fun w => hC w) ?_; (first | refine EW.eExtC ?_ | refine EW.eExtA ?_); (first | refine EW.eExtC ?_ | refine EW.eExtA ?_); (first | refine EW.eStoreW (k := 2) ?_ | refine EW.eStore (k := 2) ?_); refine EW.eAssign ?_; refine EW.eEnd ?_; (try refine EW.nm ?_))
    all_goals (refine EW.eLeaveP ?_; intro w' hW; refine ⟨?_, hW⟩)
    all_goals rfl
end Go.Proofs.Ytbjogekhedglgaa
