/- Helpers for a row: slices within records; a walk that begins with blocks that came in, and opens more of them. No function in sight. -/
import Derived.Test.YtnlneihalfekiaaHRow4
namespace Go.Proofs.Ytnlneihalfekiaa
set_option linter.unusedSimpArgs false
set_option linter.unusedVariables false
open Go.RowKit Go.ChangeShapes Go.WideShapes EV
/-- A slice that came in, whatever its address. -/
def InA (v : Value) (b off len room z : Nat) : Prop := (∃ cap, v = .slice (some ⟨b, off, none⟩) len cap ∧ len ≤ cap ∧ cap ≤ maxLen ∧ cap * z ≤ room) ∨ (len = 0 ∧ ∃ a, v = .slice a 0 0)
section
variable {H : Type} {enc : TypeId × Value → H} {P : Program} {w : World} {base : Nat} {held : Bool}
theorem cells_spot {a : Addr} {n : Nat} {cs : List Value} (h : w.cells? base a n = some cs) (hn : 0 < n) : a.spot = none := by
  have g3 := (World.cells?_some h).2.2 0 hn
  have hl := (World.cells?_some h).2.1
  rw [List.getElem?_eq_getElem (by omega)] at g3
  unfold World.cell? at g3
  have e : (a.add 0) = a := by unfold Addr.add; simp
  rw [e] at g3
  split at g3
  · split at g3
    · cases g3
    · next h => simpa using h
  · cases g3
theorem open_sliceQ {e t : TypeId} {z fuel : Nat} {v : Value} {x : DataW H × List MemPlace} {Q : List Value → Prop} (ht : P.underlying t = some (.slice e)) (hc : P.cellsOf e = z) (h0 : 0 < z)
    (hq : ∀ m cs x, DataW.trod enc P w base (fun _ => true) held m e cs = some x → Q cs) (h : DataW.trod enc P w base (fun _ => true) held fuel t [v] = some x) :
    ∃ (b off len room : Nat) (rows : List (List Value)), rows.length = len ∧ (∀ s ∈ rows, s.length = z ∧ Q s) ∧ SrcG w b off room rows.flatten ∧ InA v b off len room z := by
  rcases DataW.trod_slice ht h with ⟨h1, _⟩ | ⟨a, len, cap, elems, rest, m, _, h1, _, hb, hl, hm, hlen, hel, hre, _⟩
  · simp only [List.cons.injEq, and_true] at h1
    subst h1
    exact ⟨0, 0, 0, 0, [], rfl, by simp, ⟨by simp, .inl rfl⟩, .inr ⟨rfl, none, rfl⟩⟩
  · simp only [List.cons.injEq, and_true] at h1
    subst h1
    rcases Nat.eq_zero_or_pos cap with hc0 | hc0
    · subst hc0
      have : len = 0 := by omega
      subst this
      exact ⟨0, 0, 0, 0, [], rfl, by simp, ⟨by simp, .inl rfl⟩, .inr ⟨rfl, _, rfl⟩⟩
    have each : ∀ i, i < cap → ∃ cs, w.cells? base (a.add (i * z)) z = some cs ∧ Q cs := by
      intro i hi
      rcases Nat.lt_or_ge i len with h2 | h2
      · have := hel i h2
        rw [List.getElem?_eq_getElem (by omega), hc, Option.bind_eq_some_iff] at this
        obtain ⟨cs, h3, h4⟩ := this
        exact ⟨cs, h3, hq _ _ _ h4⟩
      · obtain ⟨g1, g2⟩ := hre rfl
        have := g2 (i - len) (by omega)
        rw [List.getElem?_eq_getElem (by omega), hc, Option.bind_eq_some_iff, show len + (i - len) = i by omega] at this
        obtain ⟨cs, h3, h4⟩ := this
        exact ⟨cs, h3, hq _ _ _ h4⟩
    obtain ⟨ab, ao, asp⟩ := a
    have hspot : asp = none := by
      obtain ⟨cs, h2, _⟩ := each 0 hc0
      have := cells_spot h2 h0
      simpa [Addr.add] using this
    subst hspot
    have key : ∀ j, j ≤ len → ∃ rows : List (List Value), rows.length = j ∧ (∀ s ∈ rows, s.length = z ∧ Q s) ∧ ∀ i s, rows[i]? = some s → w.cells? base ((⟨ab, ao, none⟩ : Addr).add (i * z)) z = some s := by
      intro j
      induction j with
      | zero => intro _; exact ⟨[], rfl, by simp, by simp⟩
      | succ j ih =>
        intro hj
        obtain ⟨rows, h2, h3, h4⟩ := ih (by omega)
        obtain ⟨cs, h5, h6⟩ := each j (by omega)
        refine ⟨rows ++ [cs], by simp [h2], ?_, ?_⟩
        · intro s hs
          rcases List.mem_append.1 hs with hs | hs
          · exact h3 s hs
          · simp only [List.mem_singleton] at hs; subst hs; exact ⟨(World.cells?_some h5).2.1, h6⟩
        · intro i s hs
          rcases Nat.lt_or_ge i j with hi | hi
          · rw [List.getElem?_append_left (by omega)] at hs; exact h4 i s hs
          · rw [List.getElem?_append_right (by omega)] at hs
            have : i = j := by
              have := (List.getElem?_eq_some_iff.1 hs).1
              simp at this; omega
            subst this
            rw [h2, Nat.sub_self] at hs
            simp only [List.getElem?_cons_zero, Option.some.injEq] at hs
            subst hs; exact h5
    obtain ⟨rows, h2, h3, h4⟩ := key len (Nat.le_refl _)
    have hz : ∀ s ∈ rows, s.length = z := fun s hs => (h3 s hs).1
    have hfl := flatten_len hz
    refine ⟨ab, ao, len, cap * z, rows, h2, h3, ⟨by rw [hfl, h2]; exact Nat.mul_le_mul_right _ hl, .inr ?_⟩, .inl ⟨cap, rfl, hl, hm, Nat.le_refl _⟩⟩
    obtain ⟨cs0, g0, _⟩ := each (cap - 1) (by omega)
    obtain ⟨cs, ty, fz, g1, g2⟩ := cells_end g0 h0
    have e1 : (cap - 1) * z + z = cap * z := by rw [← Nat.succ_mul, Nat.succ_eq_add_one, Nat.sub_add_cancel hc0]
    refine ⟨cs, ty, fz, g1, by omega, fun i y hy => ?_⟩
    obtain ⟨s, q1, q2⟩ := flatten_get hz i y hy
    have g3 := (World.cells?_some (h4 _ _ q1)).2.2 (i % z) (Nat.mod_lt _ h0)
    rw [q2] at g3
    have e1 : i / z * z + i % z = i := by rw [Nat.mul_comm]; exact Nat.div_add_mod i z
    have e2 : ∀ a b : Nat, ((⟨ab, ao, none⟩ : Addr).add a).add b = ⟨ab, ao + (a + b), none⟩ := by
      intro a b
      unfold Addr.add
      by_cases ha : a = 0 <;> by_cases hb : b = 0 <;> simp [ha, hb] <;> omega
    rw [e2, e1] at g3
    unfold World.cell? at g3
    simpa [g1] using g3
theorem trod_int {t : TypeId} {k : IntKind} {fuel : Nat} {v : Value} {x : DataW H × List MemPlace} (ht : P.underlying t = some (.int k)) (h : DataW.trod enc P w base (fun _ => true) held fuel t [v] = some x) : ∃ n, v = .int k n ∧ k.min ≤ n ∧ n ≤ k.max := by
  have := flat_fit (ks := [.i k]) 1 t (by simp [flatK, ht]) _ _ _ h
  obtain ⟨n, r, e, h1, h2, h3⟩ := this
  simp only [List.cons.injEq] at e
  exact ⟨n, e.1, h1, h2⟩
theorem trod_bool {t : TypeId} {fuel : Nat} {v : Value} {x : DataW H × List MemPlace} (ht : P.underlying t = some .bool) (h : DataW.trod enc P w base (fun _ => true) held fuel t [v] = some x) : ∃ b, v = .bool b := by
  have := flat_fit (ks := [.b]) 1 t (by simp [flatK, ht]) _ _ _ h
  obtain ⟨n, r, e, h1⟩ := this
  simp only [List.cons.injEq] at e
  exact ⟨n, e.1⟩
/-- The fields of a record, each by itself. -/
theorem trod_fields {t : TypeId} {fs : Array Field} {fuel : Nat} {cs : List Value} {x : DataW H × List MemPlace} (ht : P.underlying t = some (.struct fs)) (h : DataW.trod enc P w base (fun _ => true) held fuel t cs = some x) :
    cs.length = P.cellsOf t ∧ ∀ f ∈ fs.toList, ∃ m y, DataW.trod enc P w base (fun _ => true) held m f.type ((cs.drop f.offset).take (P.cellsOf f.type)) = some y := by
  cases fuel with
  | zero => simp [DataW.trod] at h
  | succ m =>
    simp only [DataW.trod, ht] at h
    split at h
    · rename_i hl
      simp only [Option.map_eq_some_iff] at h
      obtain ⟨ys, hys, _⟩ := h
      exact ⟨hl, fun f hf => by
        obtain ⟨y, hy⟩ := mapM_some hys f hf
        exact ⟨m, y, hy⟩⟩
    · cases h
end
theorem InG.a {v : Value} {b off len room z : Nat} (h : InG v b off len room z) : InA v b off len room z := by
  rcases h with h | ⟨h1, h2⟩
  · exact .inl h
  · exact .inr ⟨h1, none, h2⟩
theorem InA.rep {e : Env} {n : Nat} {v : Value} {b off len room z : Nat} (h : InA v b off len room z) (h1 : e.id n = b) (h2 : e.bs n = off) (h3 : e.rm n = room) : Rep e (.g n 0 len len z) v := by
  rcases h with ⟨cap, g1, g2, g3, g4⟩ | ⟨g1, a, g2⟩
  · exact .inl ⟨cap, by rw [h1, h2]; exact g1, g2, g2, g3, by rw [h3]; omega⟩
  · exact .inr ⟨g1, g1, a, g2⟩
namespace EW
open SX (Is)
section
variable {c : Ctx} {F : Fence} {nn : Nat} {Q : Exit → Act → World → Prop} {σ s : Sf} {e : Env} {a : Act} {w : World} {sup : List Nat}
theorem RealW.opened (h : RealW c s e w) {n b off room : Nat} {L : List Value} (hm : ¬ c.gv n) (hn : s (.l n) = none) (ht : ∀ k, ¬ c.tch k) (hs : SrcG c.w0 b off room L) (h1 : ∀ x ∈ L, x.oneCell' = true) : RealW c (upd s (wsNew n (.w false L))) (e.set n b off room) w := by
  have hne : ∀ {k}, s (.l k) ≠ none → k ≠ n := fun hk => not_live hn hk
  have hmo : ∀ k, k ≠ n → Mo s e (upd s (wsNew n (.w false L))) (e.set n b off room) k := fun k hk => ⟨(wsNew_live hk).1, (Env.set_ne e hk).symm⟩
  have other : ∀ {j : Nat} {b' : B}, j ≠ n → upd s (wsNew n (.w false L)) (.l j) = some (.l true) → upd s (wsNew n (.w false L)) (.b j) = some (.b b') → s (.l j) = some (.l true) ∧ s (.b j) = some (.b b') := fun hj h1 h2 => by
    rw [wsNew_l, if_neg (fun e => hj e.symm)] at h1
    rw [wsNew_b, if_neg (fun e => hj e.symm)] at h2
    exact ⟨h1, h2⟩
  obtain ⟨hs1, hs2⟩ := hs
  refine ⟨fun k b' h1' h2 => ?_, fun k k' b1 b2 h1 h2 h3 h4 hkk ho => ?_, fun k b' h1 h2 ho => ?_, h.cl.new (fun k hk => by cases hk), fun k hk => (Env.set_ne e (fun he => hm (by rw [← he]; exact hk))).trans (h.given k hk), h.os, h.tape, h.output, h.size, h.old⟩
  · by_cases hk : k = n
    · subst hk; rw [wsNew_b, if_pos rfl] at h2; cases h2
      refine ⟨by rw [Env.set_rm, List.length_map]; exact hs1, ?_⟩
      rw [Env.set_rm, Env.set_id, Env.set_bs]
      rcases hs2 with hs2 | ⟨cs, ty, fz, g1, g2, g3⟩
      · exact .inl hs2
      · have hlt : b < c.B := (Array.getElem?_eq_some_iff.1 g1).1
        refine .inr ⟨cs, ty, fz, by rw [h.old b hlt (ht b)]; exact g1, (fun h => by cases h), g2, fun i x hx => ?_⟩
        rw [List.getElem?_map, Option.map_eq_some_iff] at hx
        obtain ⟨y, hy, rfl⟩ := hx
        exact ⟨y, g3 i y hy, ⟨h1 y (List.mem_of_getElem? hy), Ok.of⟩⟩
    · obtain ⟨h1', h2'⟩ := other hk h1' h2
      exact (h.blk k b' h1' h2').mono (fun m hm => hmo m (hne (h.cl.1 _ _ h2' m hm))) (Env.set_ne e hk).symm (fun _ => rfl)
  · by_cases hk : k = n
    · subst hk; rw [wsNew_b, if_pos rfl] at h2; cases h2; cases ho
    · obtain ⟨h1', h2'⟩ := other hk h1 h2
      by_cases hk' : k' = n
      · subst hk'
        rw [(Env.set_ne e hk).rm, (Env.set_ne e hk).id, Env.set_rm, Env.set_id]
        rcases h.own k b1 h1' h2' ho with g | g | g
        · exact .inl g
        · rcases hs2 with hs2 | ⟨cs, ty, fz, g1, _, _⟩
          · exact .inr (.inl hs2)
          · have hlt : b < c.B := (Array.getElem?_eq_some_iff.1 g1).1
            exact .inr (.inr (by omega))
        · exact absurd g (ht _)
      · obtain ⟨h3', h4'⟩ := other hk' h3 h4
        rw [(Env.set_ne e hk).rm, (Env.set_ne e hk).id, (Env.set_ne e hk').rm, (Env.set_ne e hk').id]
        exact h.sep k k' b1 b2 h1' h2' h3' h4' hkk ho
  · by_cases hk : k = n
    · subst hk; rw [wsNew_b, if_pos rfl] at h2; cases h2; cases ho
    · obtain ⟨h1', h2'⟩ := other hk h1 h2
      rw [(Env.set_ne e hk).rm, (Env.set_ne e hk).id]
      exact h.own k b' h1' h2' ho
theorem Real.opened (h : Real c s e a w) {n b off room : Nat} {L : List Value} (hm : ¬ c.gv n) (hn : s (.l n) = none) (ht : ∀ k, ¬ c.tch k) (hs : SrcG c.w0 b off room L) (h1 : ∀ x ∈ L, x.oneCell' = true) : Real c (upd s (wsNew n (.w false L))) (e.set n b off room) a w :=
  h.withW (RealW.opened h.W hm hn ht hs h1) (fun i => wsNew_t) (fun k hk => ⟨(wsNew_live (not_live hn hk)).1, (Env.set_ne e (not_live hn hk)).symm⟩) (fun k hk => by
    have : k ≠ n := not_live hn (by rw [(h.fml k hk).1]; simp)
    rw [wsNew_l, wsNew_b, if_neg (fun e => this e.symm), if_neg (fun e => this e.symm)]; exact ⟨rfl, rfl⟩)
/-- A cell that holds a slice that came in: its block has a name from here on. -/
theorem eOpenB {code : Code} (n j m z : Nat) {o : Bool} {l l' : List C} {v : Value} {b off len room : Nat} {L : List Value} (hin : InA v b off len room z) (hsrc : SrcG c.w0 b off room L) (h1 : ∀ x ∈ L, x.oneCell' = true) (ht : ∀ k, ¬ c.tch k)
    (hr : CX c F nn code Q (upd (upd σ (wsNew m (.w false L))) [(.b n, .b (.m o l'))]) sup) (hb : σ (.b n) = some (.b (.m o l)) := by rfl) (hj : l[j]? = some (.v v) := by rfl) (hl' : Is (l.set j (.g m 0 len len z)) l' := by first | (apply Is.mk; simp only [List.set_cons_zero, List.set_cons_succ]; rfl) | exact Is.mk rfl) (hn : σ (.l m) = none := by rfl) (hg : ¬ c.gv m := by (exact GV.no rfl rfl)) (hnm : n ≠ m := by decide) : CX c F nn code Q σ sup := by
  obtain ⟨rfl⟩ := hl'
  refine ⟨⟨fun e a w hR => hr.go.go _ a w (Real.reB (l := l) (Real.opened hR hg hn ht hsrc h1) (by rw [wsNew_b, if_neg (fun e => hnm e.symm)]; exact hb) (fun w => MOk.set hj fun u hu => ⟨hu.one, fun _ => ?_⟩) (fun k hk => ?_))⟩⟩
  · have : u = v := Ok.plain hu.ok
    subst this
    exact hin.rep (Env.set_id ..) (Env.set_bs ..) (Env.set_rm ..)
  · rw [List.mem_flatMap] at hk
    obtain ⟨x, hx, hk⟩ := hk
    rcases List.mem_or_eq_of_mem_set hx with hx | rfl
    · have h1 := hR.W.cl.1 (.b n) _ hb k (List.mem_flatMap.2 ⟨x, hx, hk⟩)
      rw [wsNew_l]; split
      · simp
      · exact h1
    · simp only [C.names, List.mem_singleton] at hk
      subst hk; rw [wsNew_l, if_pos rfl]; simp
/-- A function entered with blocks that came in. -/
theorem eEnterG {P : Program} {f : FuncId} {fn : Func} {code : Code} {args : List V} {us : List Value} {Ls : List (List Value)} {A : List (Nat × Nat × Nat)} {w : World} {R : Ending → World → Prop} {N k : Nat} {ws : Ws} (hf : P.funcs[f]? = some fn) (hb : fn.body = some code) (hN : fn.ntmps = N) (hk : Ls.length = k)
    (hsrc : ∀ i L, Ls[i]? = some L → SrcG w (A.getD i (0, 0, 0)).1 (A.getD i (0, 0, 0)).2.1 (A.getD i (0, 0, 0)).2.2 L ∧ ∀ x ∈ L, x.oneCell' = true) (hargs : OkVs (upd EW.emp (wsOf Ls 0)) (envG A) args us) (hn : ∀ v ∈ args, ∀ n ∈ v.names, n < Ls.length)
    (h : CX ⟨P, w, fun _ => False, GV k 1000000, envG A, N, []⟩ Fence.wide 0 code (bodyPostM Fence.wide 0 P fn R) (upd (upd emp (wsOf Ls 0)) ws) ([10, 20, 30, 40, 50, 60, 70, 80, 90, 100, 110, 120, 130, 140, 150, 160, 170, 180, 190, 200, 210, 220, 230, 240, 250, 260, 270, 280, 290, 300, 310, 320, 330, 340, 350, 360, 370, 380, 390, 400, 410, 420, 430, 440, 450, 460, 470, 480, 490, 500, 510, 520, 530, 540, 550, 560, 570, 580, 590, 600])) (hle : Nat.ble args.length N = true := by rfl) (hws : Is (argW 0 args) ws := by ((apply Is.mk; first | (simp only [EW.ctl, EW.ctlI, EW.ctlB, List.map_cons, List.map_nil, EV.putL, EV.put0, List.drop_succ_cons, List.drop_zero, List.drop_nil, List.take_succ_cons, List.take_zero, List.take_nil, List.nil_append, List.cons_append, List.append_nil, EV.timesL, EW.argW, Nat.reduceAdd, Nat.reduceMul, Nat.reduceSub, Nat.zero_add, Nat.zero_mul, Nat.mul_one, Nat.one_mul, Nat.add_zero]; rfl) | rfl))) : Calls P f us.toArray w R := by
  obtain ⟨rfl⟩ := hws
  subst hk
  refine (callsIn_wide (n := 0)).1 (callsIn_of_wp_marks hf hb trivial ?_)
  refine h.go.go (envG A) _ w ?_
  have hlen : us.length = args.length := hargs.length
  have hle' := Nat.le_of_ble_eq_true hle
  have hl0 : ∀ n, upd (upd emp (wsOf Ls 0)) (argW 0 args) (.l n) = (Ls[n]?).map fun _ => KV.l true := fun n => by
    simp only [upd, lookW_arg, emp, lookW_of]; simp
  have hb0 : ∀ n, upd (upd emp (wsOf Ls 0)) (argW 0 args) (.b n) = (Ls[n]?).map fun L => KV.b (.w false L) := fun n => by
    simp only [upd, lookW_arg, emp, lookW_of]; simp
  have ht0 : ∀ i, upd (upd emp (wsOf Ls 0)) (argW 0 args) (.t i) = (args[i]?).map KV.v := fun i => by
    simp only [upd, lookW_arg, emp, lookW_of]; simp
  have hl1 : ∀ n, upd emp (wsOf Ls 0) (.l n) = (Ls[n]?).map fun _ => KV.l true := fun n => by
    simp only [upd, emp, lookW_of]; simp
  have hmo : ∀ n, Mo (upd emp (wsOf Ls 0)) (envG A) (upd (upd emp (wsOf Ls 0)) (argW 0 args)) (envG A) n := fun n => ⟨fun hx => by unfold live at *; rw [hl1]; rwa [hl0] at hx, .rfl⟩
  refine ⟨⟨fun n b h1 h2 => ?_, fun n n' b b' h1 h2 h3 h4 _ ho => ?_, fun n b h1 h2 ho => ?_, ⟨fun q x hq n hnn => ?_, fun n hx => ?_⟩, fun _ _ => .rfl, rfl, rfl, rfl, Nat.le_refl _, fun _ _ _ => rfl⟩, rfl, (fun n hn => by cases hn), (by simp; omega), fun i v hx => ?_⟩
  · rw [hb0] at h2
    cases hL : Ls[n]? with
    | none => rw [hL] at h2; cases h2
    | some L =>
      rw [hL] at h2
      cases h2
      obtain ⟨⟨g0, g1⟩, g2⟩ := hsrc n L hL
      refine ⟨by rw [List.length_map]; exact g0, ?_⟩
      rcases g1 with g1 | ⟨cs, ty, fz, g3, g4, g5⟩
      · left; exact g1
      · right
        refine ⟨cs, ty, fz, g3, fun h => (by cases h), g4, fun i x hx => ?_⟩
        rw [List.getElem?_map, Option.map_eq_some_iff] at hx
        obtain ⟨y, hy, rfl⟩ := hx
        exact ⟨y, g5 i y hy, ⟨g2 y (List.mem_of_getElem? hy), Ok.of⟩⟩
  · rw [hb0] at h2
    cases hL : Ls[n]? with
    | none => rw [hL] at h2; cases h2
    | some L => rw [hL] at h2; cases h2; cases ho
  · rw [hb0] at h2
    cases hL : Ls[n]? with
    | none => rw [hL] at h2; cases h2
    | some L => rw [hL] at h2; cases h2; cases ho
  · rw [hl0]
    cases q with
    | t i =>
      rw [ht0] at hq
      simp only [Option.map_eq_some_iff] at hq
      obtain ⟨v, hv, rfl⟩ := hq
      rw [List.getElem?_eq_getElem (hn v (List.mem_of_getElem? hv) n hnn)]; simp
    | l m => rw [hl0] at hq; cases hL : Ls[m]? <;> rw [hL] at hq <;> cases hq; cases hnn
    | b m => rw [hb0] at hq; cases hL : Ls[m]? <;> rw [hL] at hq <;> cases hq; cases hnn
  · rw [hb0] at hx
    rw [hl0]
    cases hL : Ls[n]? with
    | none => rw [hL] at hx; exact absurd rfl hx
    | some L => simp
  · rw [ht0] at hx
    simp only [Option.map_eq_some_iff] at hx
    obtain ⟨v', hv', he⟩ := hx
    cases he
    obtain ⟨u, g1, g2⟩ := hargs.get hv'
    have hlt : i < us.length := (List.getElem?_eq_some_iff.1 g1).1
    refine ⟨u, ?_, g2.mono fun n _ => hmo n⟩
    rw [Array.getElem?_append_left (by simpa using hlt)]
    simpa using g1
end
end EW
end Go.Proofs.Ytnlneihalfekiaa
