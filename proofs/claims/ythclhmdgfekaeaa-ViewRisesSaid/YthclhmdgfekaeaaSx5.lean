/- Walking by states: blocks, stores, calls, code, results. No program in sight. -/
import Derived.Test.YthclhmdgfekaeaaSx4
namespace Go.Proofs.Ythclhmdgfekaeaa.SX
open Go.RowKit

section
variable {c : Ctx} {F : Fence} {nn : Nat} {id : Nat} {ops : Array Oper} {draw : Bool} {Q : Exit → Act → World → Prop} {σ0 σ : St} {i : Nat} {rest : List Oper} {tr : List Tr} {sup : List Nat}
/-! ### An operation of a region -/
theorem RW_ev {o : Oper} {rd gk : List Key} {ws : Ws} (hF : WideLike F) (hG : GOk ops (look σ) o.guard gk) (h : Ev c (look σ) o ⟨rd, ws⟩) (hr : RW c F nn id ops draw Q σ0 (i + 1) rest (ws :: σ) (⟨gk ++ rd, ws⟩ :: tr) sup) : RW c F nn id ops draw Q σ0 i (o :: rest) σ tr sup :=
  RW_step (t := ⟨gk ++ rd, ws⟩) (fun ho => (h.sound hF).under hG rfl ho) hr
theorem RW_skip {e : Tmp} {op : Op} {rt : TypeId} {pos : String} {af : Array Edge} {j d : Nat} {want b : Bool} (hF : WideLike F) (hd : (ops[j]?).bind (·.dst) = some d) (hv : look σ (.t d) = some (.v (.c (.v (.bool b))))) (hb : b = !want) (hN : Nat.blt e c.N = true)
    (hr : RW c F nn id ops draw Q σ0 (i + 1) rest ([(.t e, .v (.c (.v undef)))] :: σ) (⟨[.t d], [(.t e, .v (.c (.v undef)))]⟩ :: tr) sup) : RW c F nn id ops draw Q σ0 i (⟨some e, op, rt, pos, af, some (j, want)⟩ :: rest) σ tr sup :=
  RW_step (t := ⟨[.t d], [(.t e, .v (.c (.v undef)))]⟩) (fun ho => LocalO.skipped hF rfl hd hv hb rfl hN ho) hr
theorem RW_skip0 {op : Op} {rt : TypeId} {pos : String} {af : Array Edge} {j d : Nat} {want b : Bool} (hF : WideLike F) (hd : (ops[j]?).bind (·.dst) = some d) (hv : look σ (.t d) = some (.v (.c (.v (.bool b))))) (hb : b = !want)
    (hr : RW c F nn id ops draw Q σ0 (i + 1) rest ([] :: σ) (⟨[.t d], []⟩ :: tr) sup) : RW c F nn id ops draw Q σ0 i (⟨none, op, rt, pos, af, some (j, want)⟩ :: rest) σ tr sup :=
  RW_step (t := ⟨[.t d], []⟩) (fun ho => LocalO.skipped0 hF rfl hd hv hb rfl ho) hr
/-- A guard whose truth is not known: both ways. -/
theorem RW_guard {o : Oper} {j d : Nat} {want b : Bool} (hg : o.guard = some (j, want)) (hd : (ops[j]?).bind (·.dst) = some d) (hv : look σ (.t d) = some (.v (.c (.v (.bool b)))))
    (h1 : b = true → RW c F nn id ops draw Q σ0 i (o :: rest) σ tr sup) (h2 : b = false → RW c F nn id ops draw Q σ0 i (o :: rest) σ tr sup) : RW c F nn id ops draw Q σ0 i (o :: rest) σ tr sup := by
  cases b <;> first | exact h1 rfl | exact h2 rfl
/-- A choice whose truth is not known: both ways. -/
theorem RW_choice {d : Option Tmp} {x y z : Operand} {b : Bool} {rt : TypeId} {pos : String} {af : Array Edge} {g : Option (Nat × Bool)} (hv : opv (look σ) x = some (.c (.v (.bool b))))
    (h1 : b = true → RW c F nn id ops draw Q σ0 i (⟨d, .pick x y z, rt, pos, af, g⟩ :: rest) σ tr sup) (h2 : b = false → RW c F nn id ops draw Q σ0 i (⟨d, .pick x y z, rt, pos, af, g⟩ :: rest) σ tr sup) : RW c F nn id ops draw Q σ0 i (⟨d, .pick x y z, rt, pos, af, g⟩ :: rest) σ tr sup := by
  cases b <;> first | exact h1 rfl | exact h2 rfl

theorem LocalO.block (hF : WideLike F) {o : Oper} {d n : Nat} {l : List C} {ty : TypeId} {v : V} {rd : List Key} {s : Sf} (hd : o.dst = some d) (hN : Nat.blt d c.N = true) (hdef : ∀ q, o.op ≠ .defer q) (hm : Nat.ble c.m n = true) (hn : s (.b n) = none)
    (hl : ∀ m ∈ l.flatMap C.names, ∃ q ∈ rd, ∃ x, s q = some x ∧ m ∈ x.names) (hvn : ∀ k ∈ v.names, k = n)
    (h : ∀ s' ids a w, (∀ q ∈ rd, s' q = s q) → Real c s' ids a w → ∀ ids', ids' n = w.heap.size → (execOp a.eval o).run c.P w = .ok (.value (v.den ids')) (w.alloc (.cells (l.map (C.den ids)).toArray ty))) :
    LocalO c F nn o s ⟨.b n :: rd, (.t d, .v v) :: (.b n, .b ty l.length) :: cellsW n 0 l⟩ := by
  intro Q s' ids a w K hag hR hK
  obtain ⟨ids', h1, h2, h3⟩ := hR.alloc (n := n) (l := l) (ty := ty) (d := d) (Nat.le_of_ble_eq_true hm) (by rw [hag _ List.mem_cons_self]; exact hn) (by simpa [Nat.blt_eq] using hN) (fun k hk => by
    obtain ⟨q, hq, x, hx, hx2⟩ := hl k hk
    exact hR.W.closed q x (by rw [hag q (by simp [hq])]; exact hx) k hx2) v (fun k hk => .inl (hvn k hk))
  refine wpIn_value hF hdef (h s' ids a w (fun q hq => hag q (by simp [hq])) hR ids' h1) ?_
  rw [hd]
  exact hK ids' _ _ h3
theorem run_newVar {P : Program} {w : World} {t : TypeId} {v : Value} : (newVar t v).run P w = .ok ⟨w.heap.size, 0, none⟩ (w.alloc (.cells v.cells t)) := by
  rfl
theorem zip_parts (a : Act) : ∀ ps : List (Nat × Operand), ps.map (fun q => (q.1, a.eval q.2)) = (ps.map (·.1)).zip (ps.map (a.eval ∘ fun q => q.2))
  | [] => rfl
  | p :: r => by simp [zip_parts a r]
theorem RW_alloc {d n : Nat} {ty rt : TypeId} {z : Value} {l : List C} {k : Nat} {ws : Ws} {pos : String} {af : Array Edge} {g : Option (Nat × Bool)} {gk : List Key} (hF : WideLike F) (hG : GOk ops (look σ) g gk) (hz : ∀ w, (zeroValue ty).run c.P w = .ok z w) (hl : CellsOf (.c (.v z)) l) (hm : Nat.ble c.m n = true) (hn : look σ (.b n) = none) (hN : Nat.blt d c.N = true)
    (hk : Is l.length k) (hws : Is (cellsW n 0 l) ws) (hr : RW c F nn id ops draw Q σ0 (i + 1) rest (((.t d, .v (.c (.p n 0))) :: (.b n, .b ty k) :: ws) :: σ) (⟨gk ++ [.b n], (.t d, .v (.c (.p n 0))) :: (.b n, .b ty k) :: ws⟩ :: tr) sup) :
    RW c F nn id ops draw Q σ0 i (⟨some d, .alloc ty, rt, pos, af, g⟩ :: rest) σ tr (n :: sup) := by
  obtain ⟨rfl⟩ := hk; obtain ⟨rfl⟩ := hws
  refine RW_step (t := ⟨gk ++ [.b n], (.t d, .v (.c (.p n 0))) :: (.b n, .b ty l.length) :: cellsW n 0 l⟩) (fun ho => ?_) hr
  refine LocalO.under (LocalO.block hF rfl hN (noDefer rfl) hm hn (rd := []) (fun m hm' => ?_) (by simp [V.names, C.names]) fun s' ids a w hag hR ids' hi => ?_) hG rfl ho
  · have := hl.names hm'; simp [V.names, C.names] at this
  · have hc := hl.den ids
    simp only [V.den, C.den] at hc
    simp only [execOp, Instr.alloc, Sem.run_bind, hz, Result.andThen_ok, run_newVar, hc, Sem.run_pure]
    simp [V.den, C.den, hi]
theorem RW_box {d n : Nat} {ty rt : TypeId} {x : Operand} {v : V} {l : List C} {k : Nat} {ws : Ws} {pos : String} {af : Array Edge} {g : Option (Nat × Bool)} {gk : List Key} (hF : WideLike F) (hG : GOk ops (look σ) g gk) (hx : opv (look σ) x = some v) (hl : CellsOf v l) (hm : Nat.ble c.m n = true) (hn : look σ (.b n) = none) (hN : Nat.blt d c.N = true)
    (hk : Is l.length k) (hws : Is (cellsW n 0 l) ws) (hr : RW c F nn id ops draw Q σ0 (i + 1) rest (((.t d, .v (.c (.p n 0))) :: (.b n, .b ty k) :: ws) :: σ) (⟨gk ++ (.b n :: opk x), (.t d, .v (.c (.p n 0))) :: (.b n, .b ty k) :: ws⟩ :: tr) sup) :
    RW c F nn id ops draw Q σ0 i (⟨some d, .box ty x, rt, pos, af, g⟩ :: rest) σ tr (n :: sup) := by
  obtain ⟨rfl⟩ := hk; obtain ⟨rfl⟩ := hws
  refine RW_step (t := ⟨gk ++ (.b n :: opk x), (.t d, .v (.c (.p n 0))) :: (.b n, .b ty l.length) :: cellsW n 0 l⟩) (fun ho => ?_) hr
  refine LocalO.under (LocalO.block hF rfl hN (noDefer rfl) hm hn (rd := opk x) (fun m hm' => opv_names hx (hl.names hm')) (by simp [V.names, C.names]) fun s' ids a w hag hR ids' hi => ?_) hG rfl ho
  have hc := hl.den ids
  simp only [execOp, Instr.box, Sem.run_bind, Result.andThen_ok, run_newVar, ev1 hx hag (fun q h => h) hR, hc, Sem.run_pure]
  simp [V.den, C.den, hi]
theorem RW_buildSlice {d n len : Nat} {t ety rt : TypeId} {ps : List (Nat × Operand)} {xs : List Operand} {l : List V} {L A : List Value} {ks : List Key} {cs : List C} {k : Nat} {ws : Ws} {pos : String} {af : Array Edge} {g : Option (Nat × Bool)} {gk : List Key} (hF : WideLike F) (hG : GOk ops (look σ) g gk)
    (hxs : Is (ps.map (·.2)) xs) (hx : Vals (look σ) xs l ks) (hl : LeafL l L) (hrun : ∀ w, (Instr.buildSlice t len ((ps.map (·.1)).zip L).toArray).run c.P w = .ok (.slice (some ⟨w.heap.size, 0, none⟩) len len) (w.alloc (.cells A.toArray ety)))
    (hcs : Is (A.map C.v) cs) (hm : Nat.ble c.m n = true) (hn : look σ (.b n) = none) (hN : Nat.blt d c.N = true)
    (hk : Is cs.length k) (hws : Is (cellsW n 0 cs) ws) (hr : RW c F nn id ops draw Q σ0 (i + 1) rest (((.t d, .v (.c (.s n 0 len len))) :: (.b n, .b ety k) :: ws) :: σ) (⟨gk ++ (.b n :: ks), (.t d, .v (.c (.s n 0 len len))) :: (.b n, .b ety k) :: ws⟩ :: tr) sup) :
    RW c F nn id ops draw Q σ0 i (⟨some d, .buildSlice t len ps.toArray, rt, pos, af, g⟩ :: rest) σ tr (n :: sup) := by
  obtain ⟨rfl⟩ := hk; obtain ⟨rfl⟩ := hws; obtain ⟨rfl⟩ := hcs; obtain ⟨rfl⟩ := hxs
  refine RW_step (t := ⟨gk ++ (.b n :: ks), (.t d, .v (.c (.s n 0 len len))) :: (.b n, .b ety (A.map C.v).length) :: cellsW n 0 (A.map C.v)⟩) (fun ho => ?_) hr
  refine LocalO.under (LocalO.block hF rfl hN (noDefer rfl) hm hn (rd := ks) (fun m hm' => by simp [List.flatMap_map, C.names] at hm') (by simp [V.names, C.names]) fun s' ids a w hag hR ids' hi => ?_) hG rfl ho
  have e := hx.agree hag hR
  rw [hl.eq] at e
  have e2 : ps.map (fun q => (q.1, a.eval q.2)) = (ps.map (·.1)).zip L := by
    rw [← e, List.map_map]; exact zip_parts a ps
  have e3 : (A.map C.v).map (C.den ids) = A := by rw [List.map_map]; simp [Function.comp_def, C.den]
  simp only [execOp, List.map_toArray, e2, Sem.run_bind, hrun, Result.andThen_ok, Sem.run_pure, e3]
  simp [V.den, C.den, hi]
theorem RW_store {n o k : Nat} {t bt rt : TypeId} {x y : Operand} {v : V} {l : List C} {ws : Ws} {pos : String} {af : Array Edge} {g : Option (Nat × Bool)} {gk : List Key} (hF : WideLike F) (hG : GOk ops (look σ) g gk) (hx : opv (look σ) x = some (.c (.p n o))) (hy : opv (look σ) y = some v) (hl : CellsOf v l) (hb : look σ (.b n) = some (.b bt k))
    (hi : (c.P.info? t).map (·.size) = some l.length) (ho : Nat.ble (o + l.length) k = true) (h1 : l.all C.one = true) (hws : Is (cellsW n o l) ws)
    (hr : RW c F nn id ops draw Q σ0 (i + 1) rest (ws :: σ) (⟨gk ++ (.b n :: (opk x ++ opk y)), ws⟩ :: tr) sup) :
    RW c F nn id ops draw Q σ0 i (⟨none, .store t x y, rt, pos, af, g⟩ :: rest) σ tr sup := by
  obtain ⟨rfl⟩ := hws
  refine RW_step (t := ⟨gk ++ (.b n :: (opk x ++ opk y)), cellsW n o l⟩) (fun ho' => ?_) hr
  refine LocalO.under (t := ⟨.b n :: (opk x ++ opk y), cellsW n o l⟩) (fun Q s ids a w K hag hR hK => ?_) hG rfl ho'
  obtain ⟨hth, hR'⟩ := hR.store (l := l) (by rw [hag _ List.mem_cons_self]; exact hb) (Nat.le_of_ble_eq_true ho) (fun j hj => by
    obtain ⟨q, hq, z, hz, hz2⟩ := opv_names hy (hl.names hj)
    exact hR.W.closed q z (by rw [hag q (by simp [hq])]; exact hz) j hz2)
  have ex := ev1 hx hag (fun q h => by simp [h]) hR
  have ey := ev1 hy hag (fun q h => by simp [h]) hR
  refine wpIn_skip' hF (noDefer rfl) (w' := w.setCells (ids n) o (l.map (C.den ids))) ?_ (by simpa [Act.put] using hK ids a _ hR')
  have hd := hl.den ids
  have hcells := run_storeCells_cells (P := c.P) (ids n) o (l.map (C.den ids)) 0 w (fun j hj => by simpa using (hth j (by simpa using hj)).1) (fun j hj => by simpa using (hth j (by simpa using hj)).2)
    (fun z hz => (Array.all_eq_true_iff_forall_mem.1 (one_den h1 ids)) z (by simpa using hz))
  have hsz : (sizeOf t).run c.P w = .ok l.length w := by
    cases hq : c.P.info? t with
    | none => rw [hq] at hi; cases hi
    | some inf =>
      rw [hq] at hi
      simp only [Option.map_some, Option.some.injEq] at hi
      simp [sizeOf, typeInfo, hq, hi]
  simp only [execOp, ex, ey, V.den, den_p, Instr.storeAt, Instr.sureAddr, Sem.run_bind, Sem.run_pure, Result.andThen_ok, storeVar, hsz]
  simp only [V.den] at hd
  simp [hd, hcells]
/-- A call whose answer hangs on its arguments alone, and which leaves what was there. -/
theorem RW_call {d : Nat} {f : FuncId} {xs : List Operand} {tys : Array TypeId} {l : List V} {L : List Value} {ks : List Key} {R : Value} {rt : TypeId} {pos : String} {af : Array Edge} {g : Option (Nat × Bool)} {gk : List Key} (hF : WideLike F)
    (he : ∀ args w, (callFunc f args).run c.P w = .ok (.enter f args) w) (hG : GOk ops (look σ) g gk) (hx : Vals (look σ) xs l ks) (hl : LeafL l L) (hc : ∀ w, Calls c.P f L.toArray w fun e w' => e = .returned R ∧ Below w.heap.size w w') (hN : Nat.blt d c.N = true)
    (hr : RW c F nn id ops draw Q σ0 (i + 1) rest ([(.t d, .v (.c (.v R)))] :: σ) (⟨gk ++ (ks), [(.t d, .v (.c (.v R)))]⟩ :: tr) sup) :
    RW c F nn id ops draw Q σ0 i (⟨some d, .call ⟨.value (.func f), xs.toArray, tys⟩, rt, pos, af, g⟩ :: rest) σ tr sup := by
  refine RW_step (t := ⟨gk ++ (ks), [(.t d, .v (.c (.v R)))]⟩) (fun ho => ?_) hr
  refine LocalO.under (t := ⟨ks, _⟩) (fun Q s ids a w K hag hR hK => ?_) hG rfl ho
  have e := hx.agree hag hR
  rw [hl.eq] at e
  refine ⟨fun f _ => hF.fn f, ?_⟩
  rw [Oper.semAt_eq _ _ _ (noDefer rfl)]
  simp only [execOp, resolve, invoke, Deferred.ofValue, List.map_toArray, e, Sem.run_bind, Sem.run_pure, Result.andThen_ok, Act.eval]
  simp only [List.append_toArray, List.nil_append, List.append_nil, he, Oper.uponIn]
  refine ⟨fun h => absurd h (by rw [hF.depth]; simp), hF.calls ((hc w).mono ?_)⟩
  rintro e' w' ⟨rfl, hb⟩
  exact hK ids _ _ ((hR.on hb).put (v := .c (.v R)) (by simpa [Nat.blt_eq] using hN) (by simp [V.names, C.names]))
theorem RW_call0 {f : FuncId} {xs : List Operand} {tys : Array TypeId} {l : List V} {L : List Value} {ks : List Key} {R : Value} {rt : TypeId} {pos : String} {af : Array Edge} {g : Option (Nat × Bool)} {gk : List Key} (hF : WideLike F)
    (he : ∀ args w, (callFunc f args).run c.P w = .ok (.enter f args) w) (hG : GOk ops (look σ) g gk) (hx : Vals (look σ) xs l ks) (hl : LeafL l L) (hc : ∀ w, Calls c.P f L.toArray w fun e w' => e = .returned R ∧ Below w.heap.size w w')
    (hr : RW c F nn id ops draw Q σ0 (i + 1) rest ([] :: σ) (⟨gk ++ (ks), []⟩ :: tr) sup) :
    RW c F nn id ops draw Q σ0 i (⟨none, .call ⟨.value (.func f), xs.toArray, tys⟩, rt, pos, af, g⟩ :: rest) σ tr sup := by
  refine RW_step (t := ⟨gk ++ (ks), []⟩) (fun ho => ?_) hr
  refine LocalO.under (t := ⟨ks, _⟩) (fun Q s ids a w K hag hR hK => ?_) hG rfl ho
  have e := hx.agree hag hR
  rw [hl.eq] at e
  refine ⟨fun f _ => hF.fn f, ?_⟩
  rw [Oper.semAt_eq _ _ _ (noDefer rfl)]
  simp only [execOp, resolve, invoke, Deferred.ofValue, List.map_toArray, e, Sem.run_bind, Sem.run_pure, Result.andThen_ok, Act.eval]
  simp only [List.append_toArray, List.nil_append, List.append_nil, he, Oper.uponIn]
  refine ⟨fun h => absurd h (by rw [hF.depth]; simp), hF.calls ((hc w).mono ?_)⟩
  rintro e' w' ⟨rfl, hb⟩
  exact hK ids _ _ (hR.on hb).same

/-! ### Code -/
theorem CW_reg {l : List Oper} (h : RW c F nn id l.toArray draw Q σ 0 l σ [] sup) : CW c F nn (.region id l.toArray draw) Q σ sup := CW_region (by simp) h
theorem CW_regL {l l' : List Oper} (hl : Is l l') (h : RW c F nn id l'.toArray draw Q σ 0 l' σ [] sup) : CW c F nn (.region id l.toArray draw) Q σ sup := by rw [hl.eq]; exact CW_region (by simp) h
theorem CW_seq {x y : Code} (h : CW c F nn x (Exit.then (y.wpIn F nn c.P Q) Q) σ sup) : CW c F nn (.seq x y) Q σ sup := ⟨fun ids a w hR => wpIn_seq (h.go ids a w hR)⟩
theorem KW_then {y : Code} (h : CW c F nn y Q σ sup) : KW c (Exit.then (y.wpIn F nn c.P Q) Q .normal) σ sup := ⟨h.go⟩
theorem CW_skip (h : KW c (Q .normal) σ sup) : CW c F nn .skip Q σ sup := ⟨fun ids a w hR => wpIn_skip (h.go ids a w hR)⟩
theorem CW_ret (h : KW c (Q .ret) σ sup) : CW c F nn .ret Q σ sup := ⟨fun ids a w hR => wpIn_ret (h.go ids a w hR)⟩
theorem CW_exit {k : Nat} (h : KW c (Q (.exit k)) σ sup) : CW c F nn (.exit k) Q σ sup := ⟨fun ids a w hR => wpIn_exit (h.go ids a w hR)⟩
theorem CW_block {k : Nat} {x : Code} (h : CW c F nn x (Exit.inBlock k Q) σ sup) : CW c F nn (.block k x) Q σ sup := ⟨fun ids a w hR => wpIn_block (h.go ids a w hR)⟩
theorem KW_block {k : Nat} (h : KW c (Q .normal) σ sup) : KW c (Exit.inBlock k Q .normal) σ sup := ⟨h.go⟩
theorem KW_exit {k : Nat} (h : KW c (Q .normal) σ sup) : KW c (Exit.inBlock k Q (.exit k)) σ sup := ⟨fun ids a w hR => by simpa [Exit.inBlock] using h.go ids a w hR⟩
theorem KW_pass {k j : Nat} (hk : Nat.beq j k = false) (h : KW c (Q (.exit j)) σ sup) : KW c (Exit.inBlock k Q (.exit j)) σ sup := ⟨fun ids a w hR => by
  have hne : j ≠ k := fun e => by subst e; simp at hk
  simpa [Exit.inBlock, hne] using h.go ids a w hR⟩
theorem KW_block_ret {k : Nat} (h : KW c (Q .ret) σ sup) : KW c (Exit.inBlock k Q .ret) σ sup := ⟨h.go⟩
theorem KW_then_ret {K : Act → World → Prop} (h : KW c (Q .ret) σ sup) : KW c (Exit.then K Q .ret) σ sup := ⟨h.go⟩
theorem KW_then_exit {K : Act → World → Prop} {k : Nat} (h : KW c (Q (.exit k)) σ sup) : KW c (Exit.then K Q (.exit k)) σ sup := ⟨h.go⟩
theorem CW_cond {x : Operand} {p q : Code} {b : Bool} (hx : opv (look σ) x = some (.c (.v (.bool b)))) (h1 : b = true → CW c F nn p Q σ sup) (h2 : b = false → CW c F nn q Q σ sup) : CW c F nn (.cond x p q) Q σ sup := ⟨fun ids a w hR => by
  have e := eval_opv hx hR
  exact wpIn_cond_split e (fun h => (h1 h).go ids a w hR) (fun h => (h2 h).go ids a w hR)⟩
theorem CW_yes {x : Operand} {p q : Code} (hx : opv (look σ) x = some (.c (.v (.bool true)))) (h1 : CW c F nn p Q σ sup) : CW c F nn (.cond x p q) Q σ sup := CW_cond hx (fun _ => h1) (fun h => by cases h)
theorem CW_no {x : Operand} {p q : Code} (hx : opv (look σ) x = some (.c (.v (.bool false)))) (h2 : CW c F nn q Q σ sup) : CW c F nn (.cond x p q) Q σ sup := CW_cond hx (fun h => by cases h) (fun _ => h2)
theorem CW_by {x : Operand} {p q : Code} {b : Bool} (hx : opv (look σ) x = some (.c (.v (.bool b)))) (hb : b = true) (h1 : CW c F nn p Q σ sup) : CW c F nn (.cond x p q) Q σ sup := CW_cond hx (fun _ => h1) (fun h => by rw [hb] at h; cases h)
theorem CW_byn {x : Operand} {p q : Code} {b : Bool} (hx : opv (look σ) x = some (.c (.v (.bool b)))) (hb : b = false) (h2 : CW c F nn q Q σ sup) : CW c F nn (.cond x p q) Q σ sup := CW_cond hx (fun h => by rw [hb] at h; cases h) (fun _ => h2)
/-- A loop, round by round. -/
theorem CW_unroll {x : Code} (m : Nat) (h : KW c (Code.roundsIn F nn c.P x Q m) σ sup) : CW c F nn (.loop x) Q σ sup := ⟨fun ids a w hR => wpIn_loop_rounds m (h.go ids a w hR)⟩
theorem KW_round {x : Code} {m : Nat} (h : CW c F nn x (Exit.then (Code.roundsIn F nn c.P x Q m) Q) σ sup) : KW c (Code.roundsIn F nn c.P x Q (m + 1)) σ sup := ⟨h.go⟩
theorem KW_next {x : Code} {m : Nat} (h : KW c (Code.roundsIn F nn c.P x Q m) σ sup) : KW c (Exit.then (Code.roundsIn F nn c.P x Q m) Q .normal) σ sup := ⟨h.go⟩

/-! ### A state that says less -/
def Sub (σ : Sf) (τ : St) : Prop := ∀ q x, look τ q = some x → σ q = some x
def subW (σ : Sf) : Ws → Prop
  | [] => True
  | (q, x) :: r => σ q = some x ∧ subW σ r
theorem subW_of {s : Sf} : ∀ {ws : Ws}, subW s ws → ∀ q x, lookW ws q = some x → s q = some x
  | [], _, q, x, h => by cases h
  | (k, y) :: r, hs, q, x, h => by
    simp only [lookW] at h
    cases hk : Key.beq k q with
    | true => rw [hk] at h; simp at h; subst h; rw [← (Key.beq_iff _ _).1 hk]; exact hs.1
    | false => rw [hk] at h; exact subW_of hs.2 q x h
theorem Sub.one {s : Sf} {ws : Ws} (h : subW s ws) : Sub s [ws] := fun q x hx => subW_of h q x (by simpa [look, lookOr_eq] using hx)
def closedB (ws : Ws) : Bool := ws.all fun x => (x.2.names.all fun n => (lookW ws (.b n)).isSome) && (match x.1 with | .c n _ => (lookW ws (.b n)).isSome | _ => true)
def bOk (ws : Ws) : Bool := ws.all fun x => match x.1, x.2 with
  | .b _, .b _ _ => true
  | .b _, _ => false
  | _, _ => true
theorem Real.less {ws : Ws} {s : Sf} {ids : Nat → Nat} {a : Act} {w : World} (h : Real c s ids a w) (hs : subW s ws) (hc : closedB ws = true) (hb : bOk ws = true) : Real c (look [ws]) ids a w := by
  have hS := Sub.one hs
  have e : look [ws] = lookW ws := by funext q; simp [look, lookOr_eq]
  have hl : ∀ n, live (look [ws]) n → live s n := fun n ⟨t, k, hx⟩ => ⟨t, k, hS _ _ hx⟩
  have hlv : ∀ n, (lookW ws (.b n)).isSome = true → live (look [ws]) n := fun n hn => by
    obtain ⟨x, hx⟩ := Option.isSome_iff_exists.1 hn
    have := List.all_eq_true.1 hb _ (look_mem hx)
    cases x with
    | b t k => exact ⟨t, k, by rw [e]; exact hx⟩
    | v y => cases this
    | c y => cases this
  have hcl : ∀ q x, look [ws] q = some x → (∀ n ∈ x.names, live (look [ws]) n) ∧ (∀ n o, q = .c n o → live (look [ws]) n) := fun q x hx => by
    rw [e] at hx
    have := List.all_eq_true.1 hc _ (look_mem hx)
    simp only [Bool.and_eq_true, List.all_eq_true] at this
    exact ⟨fun n hn => hlv n (this.1 n hn), fun n o hq => hlv n (by subst hq; exact this.2)⟩
  refine ⟨⟨fun n o x hx => h.W.cell n o x (hS _ _ hx), fun n t k hx => h.W.blk n t k (hS _ _ hx), fun n n' h1 h2 => h.W.inj n n' (hl n h1) (hl n' h2), h.W.given, fun n hm h1 => h.W.own n hm (hl n h1), fun q x hx => (hcl q x hx).1, fun n o x hx => (hcl _ x hx).2 n o rfl, h.W.os, h.W.tape, h.W.output, h.W.size, h.W.old, h.W.marks⟩, h.defers, h.slots, fun i v hx => h.tmp i v (hS _ _ hx)⟩
/-- Forget what is no longer wanted. -/
theorem CW_less {x : Code} {sup' : List Nat} (ws : Ws) (h : CW c F nn x Q [ws] sup') (hs : subW (look σ) ws) (hc : closedB ws = true) (hb : bOk ws = true) : CW c F nn x Q σ sup := ⟨fun ids a w hR => h.go ids a w (hR.less hs hc hb)⟩
theorem KW_less {K : Act → World → Prop} {sup' : List Nat} (ws : Ws) (h : KW c K [ws] sup') (hs : subW (look σ) ws) (hc : closedB ws = true) (hb : bOk ws = true) : KW c K σ sup := ⟨fun ids a w hR => h.go ids a w (hR.less hs hc hb)⟩
/-- What a round of a loop owes: the state of some later round. -/
def Later {ι : Type} (c : Ctx) (S : ι → Ws) (μ : ι → Nat) (j : ι) (a : Act) (w : World) : Prop := ∃ k, μ k < μ j ∧ ∃ ids, Real c (look [S k]) ids a w
theorem exists_min {ι : Type} (μ : ι → Nat) (p : ι → Prop) (h : ∃ j, p j) : ∃ j, p j ∧ ∀ k, p k → μ j ≤ μ k := by
  obtain ⟨j, hj⟩ := h
  generalize hm : μ j = m
  induction m using Nat.strongRecOn generalizing j with
  | _ m ih =>
    by_cases hk : ∃ k, p k ∧ μ k < m
    · obtain ⟨k, hk, hlt⟩ := hk
      exact ih (μ k) hlt k hk rfl
    · exact ⟨j, hj, fun k hpk => by
        rcases Nat.lt_or_ge (μ k) m with h | h
        · exact absurd ⟨k, hpk, h⟩ hk
        · omega⟩
theorem CW_loop {ι : Type} {x : Code} (S : ι → Ws) (μ : ι → Nat) (j : ι) {sup' : List Nat} (hs : subW (look σ) (S j)) (hc : closedB (S j) = true) (hb : bOk (S j) = true)
    (round : ∀ j, CW c F nn x (Exit.then (Later c S μ j) Q) [S j] sup') : CW c F nn (.loop x) Q σ sup := ⟨fun ids a w hR => by
  refine wpIn_loop (fun a w => ∃ j, ∃ ids, Real c (look [S j]) ids a w) (fun a w => open Classical in if h : ∃ j, ∃ ids, Real c (look [S j]) ids a w then μ (exists_min μ (fun j => ∃ ids, Real c (look [S j]) ids a w) h).choose else 0) ⟨j, ids, hR.less hs hc hb⟩ ?_
  intro a w hI
  obtain ⟨⟨ids', hR'⟩, hmin⟩ := (exists_min μ (fun j => ∃ ids, Real c (look [S j]) ids a w) hI).choose_spec
  refine wpIn_mono ((round _).go ids' a w hR') ?_
  intro e a' w' h
  cases e with
  | normal =>
    obtain ⟨k, hlt, ids2, hR2⟩ := h
    have hI2 : ∃ j, ∃ ids, Real c (look [S j]) ids a' w' := ⟨k, ids2, hR2⟩
    refine ⟨hI2, ?_⟩
    simp only [dif_pos hI, dif_pos hI2]
    have := (exists_min μ (fun j => ∃ ids, Real c (look [S j]) ids a' w') hI2).choose_spec.2 k ⟨ids2, hR2⟩
    exact Nat.lt_of_le_of_lt this hlt
  | exit => exact h
  | goto => exact h
  | ret => exact h
  | panic => exact h
  | outgrown => exact h⟩
theorem KW_later {ι : Type} {S : ι → Ws} {μ : ι → Nat} {j : ι} (k : ι) (hlt : μ k < μ j) (hs : subW (look σ) (S k)) (hc : closedB (S k) = true) (hb : bOk (S k) = true) : KW c (Exit.then (Later c S μ j) Q .normal) σ sup :=
  ⟨fun ids a w hR => ⟨k, hlt, ids, hR.less hs hc hb⟩⟩

/-! ### Results -/
inductive ResV (c : Ctx) (s : Sf) : ResultVar → V → Prop
  | tmp {i : Tmp} {v : V} : s (.t i) = some (.v v) → ResV c s (.tmp i) v
  | cell {i : Tmp} {t : TypeId} {n o : Nat} {z : C} : s (.t i) = some (.v (.c (.p n o))) → s (.c n o) = some (.c z) → (∀ w, (isAgg t).run c.P w = .ok false w) → ResV c s (.cell i t) (.c z)
  | agg {i : Tmp} {t : TypeId} {n o k : Nat} {e : TypeDesc} {l : List C} {L : List Value} {ks : List Key} : s (.t i) = some (.v (.c (.p n o))) → c.P.underlying t = some e → e.isRow = true → (c.P.info? t).map (·.size) = some k → CellsAt s n o k l ks → Plain l L → ResV c s (.cell i t) (.c (.v (.agg L.toArray)))
  | mix {i : Tmp} {t : TypeId} {n o k : Nat} {e : TypeDesc} {l : List C} {ks : List Key} : s (.t i) = some (.v (.c (.p n o))) → c.P.underlying t = some e → e.isRow = true → (c.P.info? t).map (·.size) = some k → CellsAt s n o k l ks → ResV c s (.cell i t) (.a l)
def resOne (tmps : Array Value) : ResultVar → Sem Value
  | .tmp t => pure (tmps.getD t undef)
  | .cell a t => do loadVar t (← asAddr (tmps.getD a undef))
theorem ResV.run {s : Sf} {r : ResultVar} {v : V} (h : ResV c s r v) {ids : Nat → Nat} {a : Act} {w : World} (hR : Real c s ids a w) : (resOne a.tmps r).run c.P w = .ok (v.den ids) w := by
  have ht : ∀ {i v}, s (.t i) = some (.v v) → a.tmps.getD i undef = v.den ids := fun hx => by
    simp [Array.getD_eq_getD_getElem?, hR.tmp _ _ hx]
  cases h with
  | tmp hx => simp only [resOne, ht hx, Sem.run_pure]
  | cell hx hz hag =>
    have hc := hR.W.cell _ _ _ hz
    simp only [resOne, ht hx, V.den, den_p, asAddr, Sem.run_bind, Sem.run_pure, Result.andThen_ok]
    simp [loadVar, hag, run_load, hc]
  | agg hx hu hd hi hl hp =>
    obtain ⟨h1, h2⟩ := hl.spec (fun q hq => rfl) hR.W
    rw [hp.eq] at h2
    have h3 := h1; rw [← List.length_map (f := C.den ids), hp.eq ids] at h3
    simp only [resOne, ht hx, V.den, den_p, asAddr, Sem.run_bind, Sem.run_pure, Result.andThen_ok]
    exact run_loadVar_mid w _ _ _ _ _ h2 hu hd (by rw [hi, h3])
  | mix hx hu hd hi hl =>
    obtain ⟨h1, h2⟩ := hl.spec (fun q hq => rfl) hR.W
    simp only [resOne, ht hx, V.den, den_p, asAddr, Sem.run_bind, Sem.run_pure, Result.andThen_ok]
    exact run_loadVar_mid w _ _ _ _ _ h2 hu hd (by rw [hi]; simp [h1])
theorem results_one {fn : Func} {tmps : Array Value} : results fn tmps = (do let vs ← fn.results.mapM (resOne tmps); pure (if h : vs.size = 1 then vs[0] else .tuple vs)) := by
  unfold results
  congr 2
theorem KW_ret0 {fn : Func} {R : Ending → World → Prop} (hmk : c.mks = []) (hf : fn.results = #[]) (h : ∀ ids w, RealW c (look σ) ids w → R (.returned (.tuple #[])) w) : KW c (bodyPost c.P fn R .ret) σ sup := ⟨fun ids a w hR =>
  ⟨by rw [hR.defers, hmk]; rfl, .tuple #[], by rw [results_one, hf]; simp, h ids w hR.W⟩⟩
theorem KW_ret1 {fn : Func} {R : Ending → World → Prop} {r1 : ResultVar} {v1 : V} (hmk : c.mks = []) (hf : fn.results = #[r1]) (h1 : ResV c (look σ) r1 v1) (h : ∀ ids w, RealW c (look σ) ids w → R (.returned (v1.den ids)) w) : KW c (bodyPost c.P fn R .ret) σ sup := ⟨fun ids a w hR =>
  ⟨by rw [hR.defers, hmk]; rfl, v1.den ids, by rw [results_one, hf]; simp [h1.run hR], h ids w hR.W⟩⟩
theorem KW_ret2 {fn : Func} {R : Ending → World → Prop} {r1 r2 : ResultVar} {v1 v2 : V} (hmk : c.mks = []) (hf : fn.results = #[r1, r2]) (h1 : ResV c (look σ) r1 v1) (h2 : ResV c (look σ) r2 v2) (h : ∀ ids w, RealW c (look σ) ids w → R (.returned (.tuple #[v1.den ids, v2.den ids])) w) : KW c (bodyPost c.P fn R .ret) σ sup := ⟨fun ids a w hR =>
  ⟨by rw [hR.defers, hmk]; rfl, .tuple #[v1.den ids, v2.den ids], by rw [results_one, hf]; simp [h1.run hR, h2.run hR], h ids w hR.W⟩⟩
theorem KW_ret3 {fn : Func} {R : Ending → World → Prop} {r1 r2 r3 : ResultVar} {v1 v2 v3 : V} (hmk : c.mks = []) (hf : fn.results = #[r1, r2, r3]) (h1 : ResV c (look σ) r1 v1) (h2 : ResV c (look σ) r2 v2) (h3 : ResV c (look σ) r3 v3) (h : ∀ ids w, RealW c (look σ) ids w → R (.returned (.tuple #[v1.den ids, v2.den ids, v3.den ids])) w) : KW c (bodyPost c.P fn R .ret) σ sup := ⟨fun ids a w hR =>
  ⟨by rw [hR.defers, hmk]; rfl, .tuple #[v1.den ids, v2.den ids, v3.den ids], by rw [results_one, hf]; simp [h1.run hR, h2.run hR, h3.run hR], h ids w hR.W⟩⟩
theorem RealW.below {s : Sf} {ids : Nat → Nat} {w : World} (h : RealW c s ids w) (hm : c.m = 0) : Below c.w0.heap.size c.w0 w :=
  ⟨h.os, h.tape, h.output, h.size, fun k hk => h.old k hk (fun n hn => by omega)⟩

/-! ### The beginning -/
def argW : Nat → List Value → Ws
  | _, [] => []
  | i, x :: r => (.t i, .v (.c (.v x))) :: argW (i + 1) r
theorem lookW_arg : ∀ (l : List Value) (i : Nat) (q : Key), lookW (argW i l) q = match q with
    | .t j => if i ≤ j then (l[j - i]?).map fun x => KV.v (.c (.v x)) else none
    | _ => none
  | [], i, q => by cases q <;> simp [argW, lookW]
  | x :: r, i, q => by
    simp only [argW, lookW, lookW_arg r (i + 1) q]
    cases q with
    | c n o => simp [Key.beq]
    | b m => simp [Key.beq]
    | t j =>
      by_cases h : i = j
      · subst h; simp [Key.beq]
      · have hne : Nat.beq i j = false := by
          cases hb : Nat.beq i j with
          | true => exact absurd (Nat.eq_of_beq_eq_true hb) h
          | false => rfl
        simp only [Key.beq, hne, cond_false]
        by_cases hle : i ≤ j
        · rw [if_pos hle, if_pos (by omega), show j - i = j - (i + 1) + 1 from by omega]; simp
        · rw [if_neg hle, if_neg (by omega)]
theorem calls_of {P : Program} {f : FuncId} {fn : Func} {code : Code} {L : List Value} {w : World} {R : Ending → World → Prop} {N : Nat} {ws : Ws} (sup : List Nat) (hf : P.funcs[f]? = some fn) (hb : fn.body = some code) (hN : fn.ntmps = N) (hle : Nat.ble L.length N = true) (hws : Is (argW 0 L) ws)
    (h : CW ⟨P, 0, fun n => n, w, N, []⟩ Fence.wide 0 code (bodyPost P fn R) [ws] sup) : Calls P f L.toArray w R := by
  refine (callsIn_wide (n := 0)).1 (callsIn_of_wp hf hb trivial ?_)
  refine h.go (fun n => n) _ w ?_
  obtain ⟨rfl⟩ := hws
  have e : look [argW 0 L] = lookW (argW 0 L) := by funext q; simp [look, lookOr_eq]
  have hnb : ∀ n, look [argW 0 L] (.b n) = none := fun n => by rw [e, lookW_arg]
  have hnc : ∀ n o, look [argW 0 L] (.c n o) = none := fun n o => by rw [e, lookW_arg]
  have hnl : ∀ n, ¬ live (look [argW 0 L]) n := fun n ⟨t, k, hx⟩ => by rw [hnb] at hx; cases hx
  refine ⟨⟨fun n o x hx => by (rw [hnc] at hx; cases hx), fun n t k hx => by (rw [hnb] at hx; cases hx), fun n n' h1 => absurd h1 (hnl n), fun n hn => absurd hn (Nat.not_lt_zero n), fun n _ h1 => absurd h1 (hnl n), ?_, fun n o x hx => by (rw [hnc] at hx; cases hx), rfl, rfl, rfl, Nat.le_refl _, fun k _ _ => rfl, fun D hD => by cases hD⟩, rfl, ?_, ?_⟩
  · intro q x hx n hn
    rw [e, lookW_arg] at hx
    cases q with
    | t j =>
      simp only at hx
      split at hx
      · cases hj : L[j - 0]? with
        | none => rw [hj] at hx; cases hx
        | some y => rw [hj] at hx; cases hx; cases hn
      · cases hx
    | c n o => cases hx
    | b n => cases hx
  · have := Nat.le_of_ble_eq_true hle
    simp [hN]; omega
  · intro j v hx
    rw [e, lookW_arg] at hx
    simp only [Nat.zero_le, if_true, Nat.sub_zero] at hx
    cases hj : L[j]? with
    | none => rw [hj] at hx; cases hx
    | some y =>
      rw [hj] at hx; cases hx
      have hlt : j < L.length := (List.getElem?_eq_some_iff.1 hj).1
      rw [Array.getElem?_append_left (by simpa using hlt)]
      simpa [V.den, C.den] using hj
end
end Go.Proofs.Ythclhmdgfekaeaa.SX
