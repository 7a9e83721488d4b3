/- Walking over named blocks: a block given up to reading; a slice within a record that is loaded gets a name of its own. No program in sight. -/
import Derived.Test.YtflgamohploalaaHEwT
namespace Go.Proofs.Ytflgamohploalaa.EW
set_option linter.unusedSimpArgs false
set_option linter.unusedVariables false
open Go.RowKit EV
open SX (Is)
section
variable {c : Ctx} {F : Fence} {nn : Nat} {id : Nat} {ops : Array Oper} {draw : Bool} {Q : Exit → Act → World → Prop} {σ0 σ s s' : Sf} {i : Nat} {rest : List Oper} {tr : List Tr} {sup : List Nat} {e e' : Env} {a : Act} {w : World}
theorem OkL.retell : ∀ {l : List C} {us : List Value} {j : Nat} {x x' : C}, l[j]? = some x → (∀ n ∈ l.flatMap C.names, Mo s e s' e' n) → OkL s e l us → (∀ u, Okc s e x u → Okc s' e' x' u) → OkL s' e' (l.set j x') us
  | [], _, _, _, _, hx, _, _, _ => by simp at hx
  | y :: l, _, 0, x, x', hx, hn, ⟨u, r, hu, h1, h2⟩, f => by
    cases hx
    exact ⟨u, r, hu, f u h1, h2.mono fun n hm => hn n (by rw [List.flatMap_cons]; exact List.mem_append_right _ hm)⟩
  | y :: l, _, j + 1, x, x', hx, hn, ⟨u, r, hu, h1, h2⟩, f => ⟨u, r, hu, h1.mono fun n hm => hn n (by simp [List.flatMap_cons, hm]), OkL.retell (by simpa using hx) (fun n hm => hn n (by rw [List.flatMap_cons]; exact List.mem_append_right _ hm)) h2 f⟩
theorem LocalO.loadSub (hF : WideLike F) {n o k n' o' len lb z m j : Nat} {t : TypeId} {x : Operand} {b : B} {own : Bool} {l r : List C} {L L' : List Value} {d : Option Tmp} {rt : TypeId} {pos : String} {af : Array Edge} {g : Option (Nat × Bool)} (hN : dOk c.N d = true) (hx : opv σ x = some (.c (.p n o))) (ha : σ (.l n) = some (.l true)) (hb : σ (.b n) = some (.b b)) (hl : b.cellsC = some (own, l))
    (ht : tRow c.P t = some true) (hk : tS c.P t = some k) (hle : o + k ≤ l.length) (hr' : (l.drop o).take k = r) (hj : r[j]? = some (.g n' o' len lb z)) (hm : ¬ c.gv m) (hn : σ (.l m) = none) (ha' : σ (.l n') = some (.l true)) (hB : σ (.b n') = some (.b (.w false L))) (hL : Sub L L' o') :
    LocalO c F nn ⟨d, .load t x, rt, pos, af, g⟩ σ ⟨kr (.l m :: .l n' :: .b n' :: .l n :: .b n :: opk x), putW d (.a (r.set j (.g m 0 len len z))) ++ wsNew m (.w false L')⟩ := by
  refine LocalO.act hF hN (noDefer rfl) fun s e a w hag hR => ?_
  have hag' : ∀ q ∈ Key.l n :: .b n :: opk x, s q = σ q := fun q hq => hag q (kr_iff.2 (by
    simp only [List.mem_cons] at hq ⊢
    rcases hq with h | h | h
    · exact .inr (.inr (.inr (.inl h)))
    · exact .inr (.inr (.inr (.inr (.inl h))))
    · exact .inr (.inr (.inr (.inr (.inr h))))))
  have ex := ev1r hx hag' (fun q h => by simp [h]) hR rfl ha (by simp)
  simp only [Rep] at ex
  have hbs : s (.b n) = some (.b b) := by rw [hag' _ (by simp)]; exact hb
  have hM := hR.W.cells (n := n) (by rw [hag' _ (by simp)]; exact ha) hbs hl
  obtain ⟨us, h1, h2, h3⟩ := hM.range o k hle
  rw [hr'] at h2
  have hn1 : s (.l m) = none := by rw [hag _ (kr_iff.2 (by simp))]; exact hn
  have ha1 : s (.l n') = some (.l true) := by rw [hag _ (kr_iff.2 (by simp))]; exact ha'
  have hB1 : s (.b n') = some (.b (.w false L)) := by rw [hag _ (kr_iff.2 (by simp))]; exact hB
  have hnm : ∀ q ∈ r.flatMap C.names, s (.l q) ≠ none := fun q hq => hR.W.cl.1 (.b n) (.b b) hbs q (by
    show q ∈ b.names
    rw [← B.cellsC_names hl]
    rw [← hr'] at hq
    rw [List.mem_flatMap] at hq ⊢
    obtain ⟨y, hy, hq⟩ := hq
    exact ⟨y, List.mem_of_mem_drop (List.mem_of_mem_take hy), hq⟩)
  refine ⟨.agg us.toArray, w, e.set m (e.id n') (e.bs n' + o') (e.rm n' - o'), ?_, Real.sub hR hm hn1 ha1 hB1 hL, ⟨us, rfl, OkL.retell hj (fun q hq => ?_) h2 (fun u hu => ⟨hu.one, fun _ => ?_⟩)⟩, fun q hq => ?_⟩
  · have hl' : (loadCells ⟨e.id n, e.bs n + o, none⟩ us.length).run c.P w = .ok us.toArray w :=
      run_loadCells_list (P := c.P) w ⟨e.id n, e.bs n + o, none⟩ us (fun j v hv => by rw [Addr.add_mid]; exact h3 j v hv)
    simp only [execOp, ex, Instr.loadAt, Instr.sureAddr, Sem.run_bind, Sem.run_pure, Result.andThen_ok, loadVar, run_row ht, if_true, run_sz hk, ← h1, hl']
  · have hne : q ≠ m := not_live hn1 (hnm q hq)
    exact ⟨(wsNew_live hne).1, (Env.set_ne e hne).symm⟩
  · have hrep : Rep e (.g n' o' len lb z) u := hu.ok fun q hq => by
      simp only [C.names, List.mem_singleton] at hq; subst hq; exact ha1
    rcases hrep with ⟨k2, g1, g2, g3, g4, g5⟩ | ⟨g1, g2, x2, g3⟩
    · exact .inl ⟨k2, by rw [Env.set_id, Env.set_bs]; exact g1, g2, g2, g4, by rw [Env.set_rm]; omega⟩
    · exact .inr ⟨g1, g1, x2, g3⟩
  · rw [wsNew_l]
    split
    · simp
    · next hne =>
      have hq' : q ∈ (r.set j (.g m 0 len len z)).flatMap C.names := hq
      rw [List.mem_flatMap] at hq'
      obtain ⟨y, hy, hq'⟩ := hq'
      rcases List.mem_or_eq_of_mem_set hy with hy | rfl
      · exact hnm q (List.mem_flatMap.2 ⟨y, hy, hq'⟩)
      · simp only [C.names, List.mem_singleton] at hq'
        exact absurd hq'.symm hne
/-- A record is loaded: the slice that stands in its cell j gets a name of its own. -/
theorem eLoadSub [hF : WideLike F] (j m : Nat) {L L' : List Value} {d : Tmp} {n o k n' o' len lb z : Nat} {t : TypeId} {x : Operand} {b : B} {own : Bool} {l r r2 : List C} {rt : TypeId} {pos : String} {af : Array Edge} {g : Option (Nat × Bool)} {gk : List Key}
    (hr : RX c F nn id ops draw Q σ0 (i + 1) rest (upd σ ((.t d, .v (.a r2)) :: (.l m, .l true) :: (.b m, .b (.w false L')) :: [])) (⟨orR gk (kr (.l m :: .l n' :: .b n' :: .l n :: .b n :: opk x)), (.t d, .v (.a r2)) :: (.l m, .l true) :: (.b m, .b (.w false L')) :: []⟩ :: tr) sup)
    (hL : Sub L L' o')
    (hG : autoParam (GOk ops σ g gk) aGOK._auto_1) (hx : opv σ x = some (.c (.p n o)) := by rfl) (ha : σ (.l n) = some (.l true) := by rfl) (hb : σ (.b n) = some (.b b) := by rfl) (hl : b.cellsC = some (own, l) := by rfl) (ht : tRow c.P t = some true := by rfl) (hk : tS c.P t = some k := by rfl) (hle : autoParam (o + k ≤ l.length) aLEN._auto_1) (hr' : autoParam (Is ((l.drop o).take k) r) aCUT._auto_1) (hj : r[j]? = some (.g n' o' len lb z) := by rfl) (h2 : Is (r.set j (.g m 0 len len z)) r2 := by first | (apply Is.mk; simp only [List.set_cons_zero, List.set_cons_succ]; rfl) | exact Is.mk rfl) (ha' : σ (.l n') = some (.l true) := by rfl) (hB : σ (.b n') = some (.b (.w false L)) := by rfl) (hm : autoParam (¬ c.gv m) aGVN._auto_1) (hn : σ (.l m) = none := by rfl) (hN : dOk c.N (some d) = true := by rfl) :
    RX c F nn id ops draw Q σ0 i (⟨some d, .load t x, rt, pos, af, g⟩ :: rest) σ tr sup := RX_o (t := ⟨kr (.l m :: .l n' :: .b n' :: .l n :: .b n :: opk x), (.t d, .v (.a r2)) :: (.l m, .l true) :: (.b m, .b (.w false L')) :: []⟩) hr hG (h2.eq ▸ LocalO.loadSub hF hN hx ha hb hl ht hk hle hr'.eq hj hm hn ha' hB hL)
end
end Go.Proofs.Ytflgamohploalaa.EW
