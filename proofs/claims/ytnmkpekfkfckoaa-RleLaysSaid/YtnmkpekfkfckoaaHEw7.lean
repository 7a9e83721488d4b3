/- Walking over named blocks: slices told as grown ones. No program in sight. -/
import Derived.Test.YtnmkpekfkfckoaaHZE
namespace Go.Proofs.Ytnmkpekfkfckoaa.EW
set_option linter.unusedSectionVars false
set_option linter.unusedSimpArgs false
set_option linter.unusedVariables false
open Go.RowKit EV
open SX (Is)
section
variable {c : Ctx} {F : Fence} {nn : Nat} {id : Nat} {ops : Array Oper} {draw : Bool} {Q : Exit → Act → World → Prop} {σ0 σ s : Sf} {i : Nat} {rest : List Oper} {tr : List Tr} {sup : List Nat} {e : Env} {a : Act} {w : World}
theorem eNilEqG [hF : WideLike F] {d : Tmp} {x y : Operand} {n o l b z : Nat} {t ty el : TypeId} {rt : TypeId} {pos : String} {af : Array Edge} {g : Option (Nat × Bool)} {gk : List Key}
    (hr : RX c F nn id ops draw Q σ0 (i + 1) rest (upd σ [(.t d, .v (.c (.v (.bool false))))]) (⟨orR gk (kr (([.l n] ++ opk x) ++ opk y)), [(.t d, .v (.c (.v (.bool false))))]⟩ :: tr) sup)
    (hG : autoParam (GOk ops σ g gk) aGOK._auto_1) (hx : opv σ x = some (.c (.g n o l b z)) := by rfl) (ha : σ (.l n) = some (.l true) := by rfl) (hy : opv σ y = some (.c (.v (.slice none 0 0))) := by rfl) (hl : autoParam (0 < l + b) aLEN._auto_1) (hu : c.P.underlying t = some (.slice el) := by rfl) (hN : dOk c.N (some d) = true := by rfl) :
    RX c F nn id ops draw Q σ0 i (⟨some d, .binOp .eql t x y ty, rt, pos, af, g⟩ :: rest) σ tr sup := RX_po hF hr hG hN rfl (PO.nilEq (.g hx ha hl hu) hy)
theorem eNilEqV [hF : WideLike F] {d : Tmp} {x y : Operand} {p : Option Addr} {l k : Nat} {t ty el : TypeId} {rt : TypeId} {pos : String} {af : Array Edge} {g : Option (Nat × Bool)} {gk : List Key}
    (hr : RX c F nn id ops draw Q σ0 (i + 1) rest (upd σ [(.t d, .v (.c (.v (.bool p.isNone))))]) (⟨orR gk (kr (([] ++ opk x) ++ opk y)), [(.t d, .v (.c (.v (.bool p.isNone))))]⟩ :: tr) sup)
    (hG : autoParam (GOk ops σ g gk) aGOK._auto_1) (hx : opv σ x = some (.c (.v (.slice p l k))) := by rfl) (hy : opv σ y = some (.c (.v (.slice none 0 0))) := by rfl) (hu : c.P.underlying t = some (.slice el) := by rfl) (hN : dOk c.N (some d) = true := by rfl) :
    RX c F nn id ops draw Q σ0 i (⟨some d, .binOp .eql t x y ty, rt, pos, af, g⟩ :: rest) σ tr sup := RX_po hF hr hG hN rfl (PO.nilEq (.vS hx hu) hy)
/-- A slot by the very value that it holds: an empty slice. -/
theorem Real.raw (h : Real c s e a w) {t : Nat} {v : V} {u : Value} (ht : s (.t t) = some (.v v)) (hu : a.tmps[t]? = some u) : Real c (upd s [(.t t, .v (.c (.v u)))]) e a w := by
  have hb : ∀ n, upd s [(.t t, .v (.c (.v u)))] (.b n) = s (.b n) := fun n => by rw [upd_cons_ne _ _ _ (by simp), upd_nil]
  have hl : ∀ n, upd s [(.t t, .v (.c (.v u)))] (.l n) = s (.l n) := fun n => by rw [upd_cons_ne _ _ _ (by simp), upd_nil]
  have hmo : ∀ n, Mo s e (upd s [(.t t, .v (.c (.v u)))]) e n := fun n => ⟨fun hx => by unfold live at *; rwa [hl] at hx, .rfl⟩
  refine ⟨h.W.slots hb hl ⟨fun q x hq n hnn => ?_, fun n hx => ?_⟩, h.defers, fun n hn => by rw [hl, hb]; exact h.fml n hn, h.slots, fun i x hx => ?_⟩
  · rw [hl]
    rw [upd_cons, upd_nil] at hq
    split at hq
    · cases hq; cases hnn
    · exact h.W.cl.1 q x hq n hnn
  · rw [hl]; rw [hb] at hx; exact h.W.cl.2 n hx
  · rw [upd_cons, upd_nil] at hx
    split at hx
    · next he =>
      cases he; cases hx
      exact ⟨u, hu, Ok.of⟩
    · obtain ⟨u', h1, h2⟩ := h.tmp i x hx
      exact ⟨u', h1, OkV.mono (fun n _ => hmo n) h2⟩
theorem eRaw0 {code : Code} (t : Nat) {n o b z : Nat} (hr : ∀ (p : Option Addr) (k : Nat), CX c F nn code Q (upd σ [(.t t, .v (.c (.v (.slice p 0 k))))]) sup) (ht : σ (.t t) = some (.v (.c (.g n o 0 b z))) := by rfl) (ha : σ (.l n) = some (.l true) := by rfl) : CX c F nn code Q σ sup :=
  ⟨⟨fun e a w hR => by
    obtain ⟨u, h1, h2⟩ := hR.tmp t _ ht
    have h3 := h2 (fun m hm => by simp only [C.names, List.mem_singleton] at hm; subst hm; exact ha)
    have : ∃ p k, u = .slice p 0 k := by
      rcases h3 with ⟨k, h3, _⟩ | ⟨_, _, p, h3⟩
      · exact ⟨_, _, h3⟩
      · exact ⟨_, _, h3⟩
    obtain ⟨p, k, rfl⟩ := this
    exact (hr p k).go.go e a w (Real.raw hR ht h1)⟩⟩
/-- No slice, told as a short one with a block of its own, at the end. -/
theorem eNilGK {K : Act → World → Prop} (t n z : Nat) {p : Option Addr} (hr : KX c K (upd (upd σ (wsNew n (.w true []))) [(.t t, .v (.c (.g n 0 0 0 z)))]) sup) (ht : σ (.t t) = some (.v (.c (.v (.slice p 0 0)))) := by rfl) (hn : σ (.l n) = none := by rfl) (hg : autoParam (¬ c.gv n) aGVN._auto_1) : KX c K σ sup :=
  ⟨⟨fun e a w hR => hr.go.go _ a w (Real.retell (Real.ghost hR hg hn) (by rw [wsNew_t]; exact ht) (fun u hu _ => by
    have : u = .slice p 0 0 := Ok.plain hu
    exact .inr ⟨rfl, rfl, p, this⟩) (fun k hk => by
    simp only [V.names, C.names, List.mem_singleton] at hk
    subst hk; rw [wsNew_l, if_pos rfl]; simp))⟩⟩
/-- A slice whose room is known, told as a grown one. -/
theorem eToG {code : Code} (t n z : Nat) {o len cap : Nat} {b : B} {own : Bool} {l : List C} (hr : CX c F nn code Q (upd σ [(.t t, .v (.c (.g n o len len z)))]) sup) (ht : σ (.t t) = some (.v (.c (.s n o len cap))) := by rfl) (ha : σ (.l n) = some (.l true) := by rfl) (hb : σ (.b n) = some (.b b) := by rfl) (hl : b.cellsC = some (own, l) := by rfl) (h1 : autoParam (len ≤ cap) aLEN._auto_1) (h2 : autoParam (cap ≤ 140737488355328) aLEN._auto_1) (h3 : o + cap * z ≤ l.length := by first | (rw [List.length_map, EW.RowV.len]; omega) | (rw [EW.RowL.len]; omega) | ((first | exact Nat.le_of_ble_eq_true rfl | rfl | omega | exact EW.lenLe (by omega) | (rw [EW.RowV.len]; done) | (rw [EW.RowV.len]; omega) | (rw [EW.ElemV.len]; omega) | (simp only [EW.nums_len, List.length_cons, List.length_nil, List.length_append, List.length_map, List.length_set, List.length_replicate, List.length_take, List.length_drop, List.length_range, EV.putL_length, Nat.reduceAdd, Nat.reduceMul, Nat.reduceSub]; (first | done | fail)) | (simp only [EW.nums_len, List.length_cons, List.length_nil, List.length_append, List.length_map, List.length_set, List.length_replicate, List.length_take, List.length_drop, List.length_range, EV.putL_length, Nat.reduceAdd, Nat.reduceMul, Nat.reduceSub]; omega)))) : CX c F nn code Q σ sup :=
  ⟨⟨fun e a w hR => hr.go.go e a w (Real.retell hR ht (fun u hu hlv => by
    have hn : live σ n := ha
    have h4 : l.length ≤ e.rm n := by
      have := hR.W.blk n b ha hb
      cases b with
      | m o' l' => simp only [B.cellsC, Option.some.injEq, Prod.mk.injEq] at hl; obtain ⟨_, rfl⟩ := hl; exact this.1
      | w o' l' => simp only [B.cellsC, Option.some.injEq, Prod.mk.injEq] at hl; obtain ⟨_, rfl⟩ := hl; exact this.1
      | lp r => simp [B.cellsC] at hl
      | df => simp [B.cellsC] at hl
    rcases hu (fun m hm => by simp only [C.names, List.mem_singleton] at hm; subst hm; exact hn) with h5 | ⟨h5, h6, p, h7⟩
    · exact .inl ⟨cap, h5, h1, h1, by unfold maxLen; omega, by omega⟩
    · exact .inr ⟨h5, h5, p, h7⟩) (fun k hk => by
    simp only [V.names, C.names, List.mem_singleton] at hk
    subst hk; rw [ha]; simp))⟩⟩
theorem eToGK {K : Act → World → Prop} (t n z : Nat) {o len cap : Nat} {b : B} {own : Bool} {l : List C} (hr : KX c K (upd σ [(.t t, .v (.c (.g n o len len z)))]) sup) (ht : σ (.t t) = some (.v (.c (.s n o len cap))) := by rfl) (ha : σ (.l n) = some (.l true) := by rfl) (hb : σ (.b n) = some (.b b) := by rfl) (hl : b.cellsC = some (own, l) := by rfl) (h1 : autoParam (len ≤ cap) aLEN._auto_1) (h2 : autoParam (cap ≤ 140737488355328) aLEN._auto_1) (h3 : o + cap * z ≤ l.length := by first | (rw [List.length_map, EW.RowV.len]; omega) | (rw [EW.RowL.len]; omega) | ((first | exact Nat.le_of_ble_eq_true rfl | rfl | omega | exact EW.lenLe (by omega) | (rw [EW.RowV.len]; done) | (rw [EW.RowV.len]; omega) | (rw [EW.ElemV.len]; omega) | (simp only [EW.nums_len, List.length_cons, List.length_nil, List.length_append, List.length_map, List.length_set, List.length_replicate, List.length_take, List.length_drop, List.length_range, EV.putL_length, Nat.reduceAdd, Nat.reduceMul, Nat.reduceSub]; (first | done | fail)) | (simp only [EW.nums_len, List.length_cons, List.length_nil, List.length_append, List.length_map, List.length_set, List.length_replicate, List.length_take, List.length_drop, List.length_range, EV.putL_length, Nat.reduceAdd, Nat.reduceMul, Nat.reduceSub]; omega)))) : KX c K σ sup :=
  ⟨⟨fun e a w hR => hr.go.go e a w (Real.retell hR ht (fun u hu hlv => by
    have hn : live σ n := ha
    have h4 : l.length ≤ e.rm n := by
      have := hR.W.blk n b ha hb
      cases b with
      | m o' l' => simp only [B.cellsC, Option.some.injEq, Prod.mk.injEq] at hl; obtain ⟨_, rfl⟩ := hl; exact this.1
      | w o' l' => simp only [B.cellsC, Option.some.injEq, Prod.mk.injEq] at hl; obtain ⟨_, rfl⟩ := hl; exact this.1
      | lp r => simp [B.cellsC] at hl
      | df => simp [B.cellsC] at hl
    rcases hu (fun m hm => by simp only [C.names, List.mem_singleton] at hm; subst hm; exact hn) with h5 | ⟨h5, h6, p, h7⟩
    · exact .inl ⟨cap, h5, h1, h1, by unfold maxLen; omega, by omega⟩
    · exact .inr ⟨h5, h5, p, h7⟩) (fun k hk => by
    simp only [V.names, C.names, List.mem_singleton] at hk
    subst hk; rw [ha]; simp))⟩⟩
/-- A block told in other words. -/
theorem Real.reB' (hR : Real c s e a w) {n : Nat} {b0 b1 : B} (hb : s (.b n) = some (.b b0)) (hdf : b0 ≠ .df) (ho : b0.own = b1.own) (hok : ∀ w, BOk s e w n b0 → BOk s e w n b1) (hn : ∀ m ∈ b1.names, s (.l m) ≠ none) : Real c (upd s [(.b n, .b b1)]) e a w := by
  have hbk : ∀ k, upd s [(.b n, .b b1)] (.b k) = if n = k then some (.b b1) else s (.b k) := fun k => by rw [upd_cons, upd_nil]; simp
  have hl : ∀ k, upd s [(.b n, .b b1)] (.l k) = s (.l k) := fun k => by rw [upd_cons_ne _ _ _ (by simp), upd_nil]
  have ht : ∀ k, upd s [(.b n, .b b1)] (.t k) = s (.t k) := fun k => by rw [upd_cons_ne _ _ _ (by simp), upd_nil]
  have hmo : ∀ m, Mo s e (upd s [(.b n, .b b1)]) e m := fun m => ⟨fun hx => by unfold live at *; rwa [hl] at hx, .rfl⟩
  have old : ∀ k b, upd s [(.b n, .b b1)] (.b k) = some (.b b) → ∃ b', s (.b k) = some (.b b') ∧ b'.own = b.own ∧ (∀ w, BOk s e w k b' → BOk s e w k b) := fun k b h => by
    rw [hbk] at h
    by_cases hk : n = k
    · subst hk; rw [if_pos rfl] at h; cases h
      exact ⟨_, hb, ho, fun w h => hok w h⟩
    · rw [if_neg hk] at h; exact ⟨b, h, rfl, fun _ h => h⟩
  have h := hR.W
  refine ⟨⟨fun k b h1 h2 => ?_, fun k k' b b' h1 h2 h3 h4 hne ho => ?_, fun k b h1 h2 ho => ?_, ⟨fun q x hq m hm => ?_, fun k hx => ?_⟩, h.given, h.os, h.tape, h.output, h.size, h.old⟩, hR.defers, fun k hk => ?_, hR.slots, fun i v hx => ?_⟩
  · rw [hl] at h1
    obtain ⟨b', g1, g2, g3⟩ := old k b h2
    exact (g3 w (h.blk k b' h1 g1)).mono (fun m _ => hmo m) .rfl (fun _ => rfl)
  · rw [hl] at h1 h3
    obtain ⟨b1, g1, g2, _⟩ := old k b h2
    obtain ⟨b2, g3, _⟩ := old k' b' h4
    exact h.sep k k' b1 b2 h1 g1 h3 g3 hne (g2.trans ho)
  · rw [hl] at h1
    obtain ⟨b1, g1, g2, _⟩ := old k b h2
    exact h.own k b1 h1 g1 (g2.trans ho)
  · rw [hl]
    cases q with
    | t i => rw [ht] at hq; exact h.cl.1 _ x hq m hm
    | l i => rw [hl] at hq; exact h.cl.1 _ x hq m hm
    | b i =>
      rw [hbk] at hq
      split at hq
      · cases hq; exact hn m hm
      · exact h.cl.1 _ x hq m hm
  · rw [hl]
    rw [hbk] at hx
    split at hx
    · next hk => subst hk; exact h.cl.2 n (by rw [hb]; simp)
    · exact h.cl.2 k hx
  · rw [hl, hbk]
    obtain ⟨g1, g2⟩ := hR.fml k hk
    refine ⟨g1, ?_⟩
    split
    · next he => subst he; rw [hb] at g2; cases g2; exact absurd rfl hdf
    · exact g2
  · rw [ht] at hx
    obtain ⟨u, g1, g2⟩ := hR.tmp i v hx
    exact ⟨u, g1, OkV.mono (fun m _ => hmo m) g2⟩
theorem Real.reB (hR : Real c s e a w) {n : Nat} {o : Bool} {l l' : List C} (hb : s (.b n) = some (.b (.m o l))) (hok : ∀ w, MOk s e w n o l → MOk s e w n o l') (hn : ∀ m ∈ l'.flatMap C.names, s (.l m) ≠ none) : Real c (upd s [(.b n, .b (.m o l'))]) e a w :=
  Real.reB' hR (b1 := .m o l') hb (by simp) rfl hok hn
theorem Real.sameB (hR : Real c s e a w) {n : Nat} {b b' : B} (hb : s (.b n) = some (.b b)) (hdf : b ≠ .df) (h : SameB b b') : Real c (upd s [(.b n, .b b')]) e a w :=
  Real.reB' hR hb hdf (SameB.own h) (fun w k => BOk.sameB h k) (fun m hm => hR.W.cl.1 (.b n) _ hb m (by
    rcases h with rfl | ⟨o, l, h1, h2⟩
    · exact hm
    · show m ∈ b.names
      rw [← B.cellsC_names h1, B.cellsC_names h2]; exact hm))
theorem eSameBK {K : Act → World → Prop} (n : Nat) {b : B} (b' : B) (h : SameB b b') (hr : KX c K (upd σ [(.b n, .b b')]) sup) (hb : σ (.b n) = some (.b b) := by rfl) (hdf : b ≠ .df := by simp) : KX c K σ sup := ⟨⟨fun e a w hR => hr.go.go e a w (Real.sameB hR hb hdf h)⟩⟩
theorem MOk.set {n : Nat} {o : Bool} {l : List C} {j : Nat} {x x' : C} (hx : l[j]? = some x) (h : ∀ u, Okc s e x u → Okc s e x' u) (hM : MOk s e w n o l) : MOk s e w n o (l.set j x') := by
  obtain ⟨h1, h2⟩ := hM
  refine ⟨by simpa using h1, ?_⟩
  rcases h2 with h2 | ⟨cs, ty, fz, g1, g2, g3, g4⟩
  · exact .inl h2
  · refine .inr ⟨cs, ty, fz, g1, g2, g3, fun i y hy => ?_⟩
    rw [List.getElem?_set] at hy
    split at hy
    · next he =>
      subst he
      split at hy
      · cases hy
        obtain ⟨u, q1, q2⟩ := g4 j x hx
        exact ⟨u, q1, h u q2⟩
      · cases hy
    · exact g4 i y hy
/-- A cell that holds no slice, told as a short one with a block of its own. -/
theorem eNilB {code : Code} (n j m z : Nat) {o : Bool} {l l' : List C} {p : Option Addr} (hr : CX c F nn code Q (upd (upd σ (wsNew m (.w true []))) [(.b n, .b (.m o l'))]) sup) (hb : σ (.b n) = some (.b (.m o l)) := by rfl) (hj : l[j]? = some (.v (.slice p 0 0)) := by rfl) (hl' : Is (l.set j (.g m 0 0 0 z)) l' := by first | (apply Is.mk; simp only [List.set_cons_zero, List.set_cons_succ]; rfl) | exact Is.mk rfl) (hn : σ (.l m) = none := by rfl) (hg : autoParam (¬ c.gv m) aGVN._auto_1) (hnm : n ≠ m := by decide) : CX c F nn code Q σ sup := by
  obtain ⟨rfl⟩ := hl'
  refine ⟨⟨fun e a w hR => hr.go.go _ a w (Real.reB (l := l) (Real.ghost hR hg hn) (by rw [wsNew_b, if_neg (fun e => hnm e.symm)]; exact hb) (fun w => MOk.set hj fun u hu => ⟨hu.one, fun _ => ?_⟩) (fun k hk => ?_))⟩⟩
  · exact .inr ⟨rfl, rfl, p, Ok.plain hu.ok⟩
  · rw [List.mem_flatMap] at hk
    obtain ⟨x, hx, hk⟩ := hk
    rcases List.mem_or_eq_of_mem_set hx with hx | rfl
    · have h1 := hR.W.cl.1 (.b n) _ hb k (List.mem_flatMap.2 ⟨x, hx, hk⟩)
      rw [wsNew_l]; split
      · simp
      · exact h1
    · simp only [C.names, List.mem_singleton] at hk
      subst hk; rw [wsNew_l, if_pos rfl]; simp
theorem kvG3 {n o l l' z : Nat} {x y : C} {ow : Bool} (h : l = l') : KV.b (B.m ow [.g n o l l z, x, y]) = KV.b (B.m ow [.g n o l' l' z, x, y]) := by rw [h]
/-- A block told by an equal one. -/
theorem Real.eqB (hR : Real c s e a w) {n : Nat} {b b' : B} (hb : s (.b n) = some (.b b)) (h : b = b') : Real c (upd s [(.b n, .b b')]) e a w := by
  have : upd s [(.b n, .b b')] = s := by
    funext q
    rw [upd_cons, upd_nil]
    split
    · next he => rw [← he, hb, h]
    · rfl
  rw [this]; exact hR
theorem eEqB {code : Code} (n : Nat) {b : B} (b' : B) (h : b = b') (hr : CX c F nn code Q (upd σ [(.b n, .b b')]) sup) (hb : σ (.b n) = some (.b b) := by rfl) : CX c F nn code Q σ sup := ⟨⟨fun e a w hR => hr.go.go e a w (Real.eqB hR hb h)⟩⟩
theorem eEqBK {K : Act → World → Prop} (n : Nat) {b : B} (b' : B) (h : b = b') (hr : KX c K (upd σ [(.b n, .b b')]) sup) (hb : σ (.b n) = some (.b b) := by rfl) : KX c K σ sup := ⟨⟨fun e a w hR => hr.go.go e a w (Real.eqB hR hb h)⟩⟩
/-- A slot told by an equal one. -/
theorem Real.eqT (hR : Real c s e a w) {n : Nat} {v v' : V} (hb : s (.t n) = some (.v v)) (h : v = v') : Real c (upd s [(.t n, .v v')]) e a w := by
  have : upd s [(.t n, .v v')] = s := by
    funext q
    rw [upd_cons, upd_nil]
    split
    · next he => rw [← he, hb, h]
    · rfl
  rw [this]; exact hR
theorem eEqTK {K : Act → World → Prop} (n : Nat) {v : V} (v' : V) (h : v = v') (hr : KX c K (upd σ [(.t n, .v v')]) sup) (hb : σ (.t n) = some (.v v) := by rfl) : KX c K σ sup := ⟨⟨fun e a w hR => hr.go.go e a w (Real.eqT hR hb h)⟩⟩
/-- A block by another name, which one cell takes up. -/
def aliasW (n m k : Nat) (L : List Value) (ok : Bool) (l' : List C) : Ws := [(.l n, .l false), (.l m, .l true), (.b m, .b (.w true L)), (.b k, .b (.m ok l'))]
theorem alias_l {n m k q : Nat} {L : List Value} {ok : Bool} {l' : List C} : upd s (aliasW n m k L ok l') (.l q) = if n = q then some (.l false) else if m = q then some (.l true) else s (.l q) := by
  unfold aliasW
  rw [upd_cons, upd_cons, upd_cons_ne _ _ _ (by simp), upd_cons_ne _ _ _ (by simp), upd_nil]; simp
theorem alias_b {n m k q : Nat} {L : List Value} {ok : Bool} {l' : List C} : upd s (aliasW n m k L ok l') (.b q) = if m = q then some (.b (.w true L)) else if k = q then some (.b (.m ok l')) else s (.b q) := by
  unfold aliasW
  rw [upd_cons_ne _ _ _ (by simp), upd_cons_ne _ _ _ (by simp), upd_cons, upd_cons, upd_nil]; simp
theorem alias_t {n m k q : Nat} {L : List Value} {ok : Bool} {l' : List C} : upd s (aliasW n m k L ok l') (.t q) = s (.t q) := by
  unfold aliasW
  rw [upd_cons_ne _ _ _ (by simp), upd_cons_ne _ _ _ (by simp), upd_cons_ne _ _ _ (by simp), upd_cons_ne _ _ _ (by simp), upd_nil]
theorem Real.alias {k j n m o len b z : Nat} {ok : Bool} {l : List C} {L : List Value} (h : Real c s e a w) (hk : s (.b k) = some (.b (.m ok l))) (hj : l[j]? = some (.g n o len b z)) (hln : s (.l n) = some (.l true)) (hbn : s (.b n) = some (.b (.w true L))) (hm : s (.l m) = none) (hgm : ¬ c.gv m) :
    Real c (upd s (aliasW n m k L ok (l.set j (.g m o len b z)))) (e.set m (e.id n) (e.bs n) (e.rm n)) a w := by
  generalize hl' : l.set j (.g m o len b z) = l'
  have hnm : n ≠ m := fun he => by subst he; rw [hln] at hm; cases hm
  have hkl : s (.l k) ≠ none := h.W.cl.2 k (by rw [hk]; simp)
  have hkm : k ≠ m := fun he => by subst he; exact hkl hm
  have hnk : n ≠ k := fun he => by subst he; rw [hk] at hbn; cases hbn
  have hne : ∀ {q}, s (.l q) ≠ none → q ≠ m := fun hq he => by subst he; exact hq hm
  have hmo : ∀ q, q ≠ m → Mo s e (upd s (aliasW n m k L ok l')) (e.set m (e.id n) (e.bs n) (e.rm n)) q := fun q hq => ⟨fun hx => by
    unfold live at *; rw [alias_l] at hx
    split at hx
    · cases hx
    · rw [if_neg (fun e => hq e.symm)] at hx; exact hx, (Env.set_ne e hq).symm⟩
  have sm : (e.set m (e.id n) (e.bs n) (e.rm n)).id m = e.id n ∧ (e.set m (e.id n) (e.bs n) (e.rm n)).bs m = e.bs n ∧ (e.set m (e.id n) (e.bs n) (e.rm n)).rm m = e.rm n := ⟨Env.set_id .., Env.set_bs .., Env.set_rm ..⟩
  have W := h.W
  have other : ∀ {q : Nat} {b' : B}, q ≠ m → upd s (aliasW n m k L ok l') (.l q) = some (.l true) → upd s (aliasW n m k L ok l') (.b q) = some (.b b') → s (.l q) = some (.l true) ∧ q ≠ n ∧ ∃ b0, s (.b q) = some (.b b0) ∧ b0.own = b'.own := fun {q b'} hq h1 h2 => by
    rw [alias_l] at h1
    rw [alias_b, if_neg (fun e => hq e.symm)] at h2
    split at h1
    · cases h1
    · next hqn =>
      rw [if_neg (fun e => hq e.symm)] at h1
      refine ⟨h1, fun e => hqn e.symm, ?_⟩
      split at h2
      · next he => subst he; cases h2; exact ⟨_, hk, rfl⟩
      · exact ⟨b', h2, rfl⟩
  have eid : ∀ q, q ≠ m → (e.set m (e.id n) (e.bs n) (e.rm n)).id q = e.id q ∧ (e.set m (e.id n) (e.bs n) (e.rm n)).rm q = e.rm q := fun q hq => ⟨(Env.set_ne e hq).id, (Env.set_ne e hq).rm⟩
  have nml' : ∀ q ∈ l'.flatMap C.names, q = m ∨ q ∈ l.flatMap C.names := fun q hq => by
    rw [← hl', List.mem_flatMap] at hq
    obtain ⟨x, hx, hq⟩ := hq
    rcases List.mem_or_eq_of_mem_set hx with hx | rfl
    · exact .inr (List.mem_flatMap.2 ⟨x, hx, hq⟩)
    · simp only [C.names, List.mem_singleton] at hq; exact .inl hq
  refine ⟨⟨fun q b' h1 h2 => ?_, fun q q' b1 b2 h1 h2 h3 h4 hqq ho => ?_, fun q b' h1 h2 ho => ?_, ⟨fun q x hq r hr => ?_, fun q hq => ?_⟩, fun q hq => ?_, W.os, W.tape, W.output, W.size, W.old⟩, ?_, fun q hq => ?_, h.slots, fun i v hv => ?_⟩
  · by_cases hq : q = m
    · subst hq
      rw [alias_b, if_pos rfl] at h2; cases h2
      obtain ⟨g1, g2⟩ := W.blk n _ hln hbn
      refine ⟨by rw [sm.2.2]; exact g1, ?_⟩
      rw [sm.1, sm.2.1, sm.2.2]
      rcases g2 with g2 | ⟨cs, ty, fz, g3, g4, g5, g6⟩
      · exact .inl g2
      · refine .inr ⟨cs, ty, fz, g3, g4, g5, fun i x hx => ?_⟩
        obtain ⟨u, q1, q2⟩ := g6 i x hx
        rw [List.getElem?_map, Option.map_eq_some_iff] at hx
        obtain ⟨y, _, rfl⟩ := hx
        exact ⟨u, q1, q2.one, fun _ => Ok.plain q2.ok⟩
    · by_cases hqk : q = k
      · subst hqk
        rw [alias_b, if_neg (fun e => hq e.symm), if_pos rfl] at h2; cases h2
        have h1' := (alias_l (s := s)).symm.trans h1
        rw [if_neg hnk, if_neg (fun e => hq e.symm)] at h1'
        obtain ⟨g1, g2⟩ := W.blk q _ h1' hk
        refine ⟨by rw [← hl', (eid q hq).2]; simpa using g1, ?_⟩
        rw [(eid q hq).2, (eid q hq).1, (Env.set_ne e hq).bs]
        rcases g2 with g2 | ⟨cs, ty, fz, g3, g4, g5, g6⟩
        · exact .inl g2
        · refine .inr ⟨cs, ty, fz, g3, g4, g5, fun i x hx => ?_⟩
          rw [← hl', List.getElem?_set] at hx
          split at hx
          · next he =>
            subst he
            split at hx
            · cases hx
              obtain ⟨u, q1, q2⟩ := g6 j _ hj
              refine ⟨u, q1, q2.one, fun _ => ?_⟩
              have := q2.ok (fun r hr => by simp only [C.names, List.mem_singleton] at hr; subst hr; exact hln)
              simp only [Rep, sm.1, sm.2.1, sm.2.2] at this ⊢
              exact this
            · cases hx
          · obtain ⟨u, q1, q2⟩ := g6 i x hx
            exact ⟨u, q1, q2.mono fun r hr => hmo r (hne (W.cl.1 _ _ hk r (List.mem_flatMap.2 ⟨x, List.mem_of_getElem? hx, hr⟩)))⟩
      · rw [alias_b, if_neg (fun e => hq e.symm), if_neg (fun e => hqk e.symm)] at h2
        have h1' := (alias_l (s := s)).symm.trans h1
        split at h1'
        · cases h1'
        · rw [if_neg (fun e => hq e.symm)] at h1'
          exact (W.blk q b' h1' h2).mono (fun r hr => hmo r (hne (W.cl.1 _ _ h2 r hr))) (Env.set_ne e hq).symm (fun _ => rfl)
  · by_cases hq : q = m
    · subst hq
      have hq' : q' ≠ q := fun e => hqq e.symm
      rw [alias_b, if_pos rfl] at h2; cases h2
      obtain ⟨g1, g2, b0, g3, _⟩ := other hq' h3 h4
      rw [sm.1, sm.2.2, (eid q' hq').1, (eid q' hq').2]
      exact W.sep n q' _ b0 hln hbn g1 g3 (fun e => g2 e.symm) rfl
    · obtain ⟨g1, g2, b0, g3, g4⟩ := other hq h1 h2
      by_cases hq' : q' = m
      · subst hq'
        rw [sm.1, sm.2.2, (eid q hq).1, (eid q hq).2]
        exact W.sep q n b0 _ g1 g3 hln hbn g2 (g4.trans ho)
      · obtain ⟨f1, f2, b3, f3, _⟩ := other hq' h3 h4
        rw [(eid q hq).1, (eid q hq).2, (eid q' hq').1, (eid q' hq').2]
        exact W.sep q q' b0 b3 g1 g3 f1 f3 hqq (g4.trans ho)
  · by_cases hq : q = m
    · subst hq
      rw [sm.1, sm.2.2]
      exact W.own n _ hln hbn rfl
    · obtain ⟨g1, g2, b0, g3, g4⟩ := other hq h1 h2
      rw [(eid q hq).1, (eid q hq).2]
      exact W.own q b0 g1 g3 (g4.trans ho)
  · have key : ∀ r, r = m ∨ s (.l r) ≠ none → upd s (aliasW n m k L ok l') (.l r) ≠ none := fun r hr => by
      rw [alias_l]
      split
      · simp
      · split
        · simp
        · next h0 => rcases hr with hr | hr
                     · exact absurd hr.symm h0
                     · exact hr
    cases q with
    | t i => rw [alias_t] at hq; exact key r (.inr (W.cl.1 _ x hq r hr))
    | l i =>
      rw [alias_l] at hq
      split at hq
      · cases hq; cases hr
      · split at hq
        · cases hq; cases hr
        · exact key r (.inr (W.cl.1 _ x hq r hr))
    | b i =>
      rw [alias_b] at hq
      split at hq
      · cases hq; cases hr
      · split at hq
        · cases hq
          rcases nml' r hr with h0 | h0
          · exact key r (.inl h0)
          · exact key r (.inr (W.cl.1 _ _ hk r h0))
        · exact key r (.inr (W.cl.1 _ x hq r hr))
  · rw [alias_l]
    rw [alias_b] at hq
    split
    · simp
    · split
      · simp
      · next h0 =>
        rw [if_neg h0] at hq
        split at hq
        · next h1 => subst h1; exact hkl
        · exact W.cl.2 q hq
  · exact (Env.set_ne e (fun he => hgm (by rw [← he]; exact hq))).trans (W.given q hq)
  · rw [h.defers]
    exact List.map_congr_left fun q hq => by
      have : q ≠ m := hne (by rw [(h.fml q hq).1]; simp)
      rw [(eid q this).1]
  · obtain ⟨g1, g2⟩ := h.fml q hq
    have h1 : q ≠ m := hne (by rw [g1]; simp)
    have h2 : n ≠ q := fun he => by subst he; rw [hbn] at g2; cases g2
    have h3 : k ≠ q := fun he => by subst he; rw [hk] at g2; cases g2
    rw [alias_l, if_neg h2, if_neg (fun e => h1 e.symm), alias_b, if_neg (fun e => h1 e.symm), if_neg h3]; exact ⟨g1, g2⟩
  · rw [alias_t] at hv
    obtain ⟨u, g1, g2⟩ := h.tmp i v hv
    exact ⟨u, g1, g2.mono fun r hr => hmo r (hne (W.cl.1 _ _ hv r hr))⟩
/-- A given block goes by a name of its own. -/
theorem eAlias {code : Code} (k j n m : Nat) {o len b z : Nat} {ok : Bool} {l l' : List C} {L : List Value} (hr : CX c F nn code Q (upd σ [(.l n, .l false), (.l m, .l true), (.b m, .b (.w true L)), (.b k, .b (.m ok l'))]) sup) (hk : σ (.b k) = some (.b (.m ok l)) := by rfl) (hj : l[j]? = some (.g n o len b z) := by rfl) (hl' : Is (l.set j (.g m o len b z)) l' := by first | (apply Is.mk; simp only [List.set_cons_zero, List.set_cons_succ]; rfl) | exact Is.mk rfl) (hln : σ (.l n) = some (.l true) := by rfl) (hbn : σ (.b n) = some (.b (.w true L)) := by rfl) (hm : σ (.l m) = none := by rfl) (hgm : autoParam (¬ c.gv m) aGVN._auto_1) : CX c F nn code Q σ sup := by
  obtain ⟨rfl⟩ := hl'
  exact ⟨⟨fun e a w hR => hr.go.go _ a w (Real.alias hR hk hj hln hbn hm hgm)⟩⟩
end
end Go.Proofs.Ytnmkpekfkfckoaa.EW
