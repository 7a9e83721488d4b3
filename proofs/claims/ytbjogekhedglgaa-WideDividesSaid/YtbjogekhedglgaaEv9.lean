/- States by names: append, copy, make, literals, texts as operations. No program in sight. -/
import Derived.Test.YtbjogekhedglgaaEv8
import Derived.Lib.ConvBytes
import Derived.Laws.BytesString
namespace Go.Proofs.Ytbjogekhedglgaa.EV
open Go.RowKit

section
variable {c : Ctx} {F : Fence} {nn : Nat} {σ s : Sf} {e : Env} {a : Act} {w : World}
theorem Real.append0 (hR : Real c s e a w) {m k z : Nat} {b' : B} {vs : List C} {t t2 el ty : TypeId} {i : TypeInfo} {zv X : Value} {p : Option Addr} {us : List Value} (hm : ¬ c.gv m) (hn : s (.l m) = none)
    (hT : AppT c.P t t2 el z i zv (0 + k)) (hlu : us.length = k * z) (hv : OkL s e vs us) (hnm : ∀ j ∈ vs.flatMap C.names, s (.l j) ≠ none)
    (hX : ∀ w', w'.heap = w.heap → (Builtin.lenOf X).run c.P w' = .ok k w' ∧ (Builtin.firstCells z k X).run c.P w' = .ok us.toArray w') (hb' : b'.cellsC = some (true, vs)) :
    ∃ r w' e', (Builtin.append_ #[t, t2] ty #[.slice p 0 0, X]).run c.P w = .ok r w' ∧ Real c (upd s (wsNew m b')) e' a w' ∧ Rep e' (.g m 0 k k z) r := by
  by_cases hk0 : k = 0
  · subst hk0
    have hus : us = [] := List.eq_nil_of_length_eq_zero (by rw [hlu]; simp)
    have hvs : vs = [] := List.eq_nil_of_length_eq_zero (by rw [← hv.length, hus]; rfl)
    subst hvs
    obtain ⟨g1, g2⟩ := hR.void (z := z) (p := p) hm hn hb'
    refine ⟨.slice p 0 0, w, _, ?_, g1, g2⟩
    have := run_app_fit (ty := ty) (p := p) (cap := 0) (len := 0) (w := w) (w' := w) hT (hX w rfl).1 (hX w rfl).2 (by omega) (fun q hq => by rw [hus]; rfl) (fun _ => rfl)
    simpa using this
  · obtain ⟨zr, hz1, hrun⟩ := run_app_new (ty := ty) (w := w) (p := p) (cap := 0) (len := 0) (olds := []) hT (hX w rfl).1 (hX w.drew rfl).2 (by omega) first_zero
    have hge := grownCap_ge w (0 + k) 0 el
    have hgl := grownCap_le_maxLen w (0 + k) 0 el (by have := hT.fit.2; simp only [maxLen]; omega)
    have hlen : ([] ++ us ++ zr).length = grownCap w (0 + k) 0 el * z := by
      simp only [List.length_append, List.length_nil, Nat.zero_add, hlu, hz1, ← Nat.add_mul]; congr 1; simp only [Nat.zero_add] at hge; omega
    have htk : ([] ++ us ++ zr).take ((0 + k) * z) = us := by
      rw [List.nil_append, List.take_append_of_le_length (by simp [hlu]), List.take_of_length_le (by simp [hlu])]
    obtain ⟨g1, g2⟩ := (hR.drawn (w.drawn + 1)).grown (z := z) (k := 0 + k) (el := el) (b' := b') (vs := vs) (all := [] ++ us ++ zr) hm hn hge hgl (by rw [htk]; exact hv) hlen hnm hb'
    rw [Nat.zero_add] at g2 hrun
    exact ⟨_, _, _, hrun, g1, g2⟩
theorem new_names {m : Nat} {b : B} {x : C} (hx : x.names = [m]) : ∀ n ∈ (V.c x).names, upd s (wsNew m b) (.l n) ≠ none := fun n hn => by
  simp only [V.names, hx, List.mem_singleton] at hn; subst hn; exact new_alive
theorem steal_names {n m : Nat} {b : B} {x : C} (hx : x.names = [m]) (hne : n ≠ m) : ∀ j ∈ (V.c x).names, upd s (wsSteal n m b) (.l j) ≠ none := fun j hj => by
  simp only [V.names, hx, List.mem_singleton] at hj; subst hj; rw [steal_eq hne]; exact new_alive
theorem run_call_append {ρ : Operand → Value} {P : Program} {x y : Operand} {t t2 rt : TypeId} {d : Option Tmp} {pos : String} {af : Array Edge} {g : Option (Nat × Bool)} {r : Value} {w' : World} (h : (Builtin.append_ #[t, t2] rt #[ρ x, ρ y]).run P w = .ok r w') :
    (execOp ρ ⟨d, .call ⟨.builtin .append, #[x, y], #[t, t2]⟩, rt, pos, af, g⟩).run P w = .ok (.value r) w' := by
  simp only [execOp, resolve, Sem.run_bind, Sem.run_pure, Result.andThen_ok, invoke, builtin, List.map_toArray, List.map_cons, List.map_nil, h]
theorem LocalO.appendG (hF : WideLike F) {n m o len lb k z : Nat} {x y : Operand} {t t2 el rt : TypeId} {b b' : B} {l vs : List C} {ks : List Key} {i : TypeInfo} {zv : Value} {d : Option Tmp} {pos : String} {af : Array Edge} {g : Option (Nat × Bool)} (hN : dOk c.N d = true)
    (hx : opv σ x = some (.c (.g n o len lb z))) (ha : σ (.l n) = some (.l true)) (hb : σ (.b n) = some (.b b)) (hl : b.cellsC = some (true, l)) (hle : o + len * z ≤ l.length) (hs : SrcOk c σ y k z vs ks) (hT : AppT c.P t t2 el z i zv (len + k)) (hm : ¬ c.gv m) (hn : σ (.l m) = none)
    (hb' : b'.cellsC = some (true, (l.drop o).take (len * z) ++ vs)) :
    LocalO c F nn ⟨d, .call ⟨.builtin .append, #[x, y], #[t, t2]⟩, rt, pos, af, g⟩ σ ⟨kr (.l m :: .l n :: .b n :: (ks ++ opk x)), putW d (.c (.g m 0 (len + k) (len + k) z)) ++ wsSteal n m b'⟩ := by
  refine LocalO.act hF hN (noDefer rfl) fun s e a w hag hR => ?_
  have hag' : ∀ q ∈ Key.l m :: .l n :: .b n :: (ks ++ opk x), s q = σ q := fun q hq => hag q (kr_iff.2 hq)
  have hn' : s (.l m) = none := by rw [hag' _ (by simp)]; exact hn
  have ex := ev1r hx hag' (fun q h => by simp [h]) hR rfl ha (by simp)
  obtain ⟨us, h1, h2, h3, h4⟩ := hs s e a w (fun q hq => hag' q (by simp [hq])) hR
  have ha' : s (.l n) = some (.l true) := by rw [hag' _ (by simp)]; exact ha
  obtain ⟨r, w', e', g1, g2, g3⟩ := hR.append (ty := rt) (o := o) (len := len) hm hn' ha' (by rw [hag' _ (by simp)]; exact hb) hl hle (u := a.eval x) (by
    rcases ex with ⟨kk, e1, e2, e3, e4, e5⟩ | ⟨e1, e2, p, e3⟩
    · exact .inl ⟨kk, e1, e2, e4, e5⟩
    · exact .inr ⟨e1, p, e3⟩) hT h1 h2 h3 h4 hb'
  exact ⟨r, w', e', run_call_append g1, g2, fun _ => g3, steal_names rfl (fun e => by rw [← e, ha'] at hn'; cases hn')⟩
theorem LocalO.appendS (hF : WideLike F) {n m o len cap k z : Nat} {x y : Operand} {t t2 el rt : TypeId} {b b' : B} {l vs : List C} {ks : List Key} {i : TypeInfo} {zv : Value} {d : Option Tmp} {pos : String} {af : Array Edge} {g : Option (Nat × Bool)} (hN : dOk c.N d = true)
    (hx : opv σ x = some (.c (.s n o len cap))) (ha : σ (.l n) = some (.l true)) (hb : σ (.b n) = some (.b b)) (hl : b.cellsC = some (true, l)) (hlc : len ≤ cap) (hcm : cap ≤ 140737488355328) (hle : o + cap * z ≤ l.length) (hs : SrcOk c σ y k z vs ks) (hT : AppT c.P t t2 el z i zv (len + k)) (hm : ¬ c.gv m) (hn : σ (.l m) = none)
    (hb' : b'.cellsC = some (true, (l.drop o).take (len * z) ++ vs)) :
    LocalO c F nn ⟨d, .call ⟨.builtin .append, #[x, y], #[t, t2]⟩, rt, pos, af, g⟩ σ ⟨kr (.l m :: .l n :: .b n :: (ks ++ opk x)), putW d (.c (.g m 0 (len + k) (len + k) z)) ++ wsSteal n m b'⟩ := by
  refine LocalO.act hF hN (noDefer rfl) fun s e a w hag hR => ?_
  have hag' : ∀ q ∈ Key.l m :: .l n :: .b n :: (ks ++ opk x), s q = σ q := fun q hq => hag q (kr_iff.2 hq)
  have hn' : s (.l m) = none := by rw [hag' _ (by simp)]; exact hn
  have ex := ev1r hx hag' (fun q h => by simp [h]) hR rfl ha (by simp)
  obtain ⟨us, h1, h2, h3, h4⟩ := hs s e a w (fun q hq => hag' q (by simp [hq])) hR
  have ha' : s (.l n) = some (.l true) := by rw [hag' _ (by simp)]; exact ha
  have hbs : s (.b n) = some (.b b) := by rw [hag' _ (by simp)]; exact hb
  have hM := hR.W.cells ha' hbs hl
  have hlz : len * z ≤ cap * z := Nat.mul_le_mul_right z hlc
  obtain ⟨r, w', e', g1, g2, g3⟩ := hR.append (ty := rt) (o := o) (len := len) hm hn' ha' hbs hl (by omega) (u := a.eval x) (by
    rcases ex with e1 | ⟨e1, e2, p, e3⟩
    · exact .inl ⟨cap, e1, hlc, by simp only [maxLen]; omega, by have := hM.1; omega⟩
    · exact .inr ⟨e1, p, e3⟩) hT h1 h2 h3 h4 hb'
  exact ⟨r, w', e', run_call_append g1, g2, fun _ => g3, steal_names rfl (fun e => by rw [← e, ha'] at hn'; cases hn')⟩
theorem LocalO.appendZ (hF : WideLike F) {n m o k z : Nat} {x y : Operand} {t t2 el rt : TypeId} {b' : B} {vs : List C} {ks : List Key} {i : TypeInfo} {zv : Value} {d : Option Tmp} {pos : String} {af : Array Edge} {g : Option (Nat × Bool)} (hN : dOk c.N d = true)
    (hx : opv σ x = some (.c (.s n o 0 0))) (ha : σ (.l n) = some (.l true)) (hs : SrcOk c σ y k z vs ks) (hT : AppT c.P t t2 el z i zv (0 + k)) (hm : ¬ c.gv m) (hn : σ (.l m) = none)
    (hb' : b'.cellsC = some (true, vs)) :
    LocalO c F nn ⟨d, .call ⟨.builtin .append, #[x, y], #[t, t2]⟩, rt, pos, af, g⟩ σ ⟨kr (.l m :: .l n :: (ks ++ opk x)), putW d (.c (.g m 0 k k z)) ++ wsNew m b'⟩ := by
  refine LocalO.act hF hN (noDefer rfl) fun s e a w hag hR => ?_
  have hag' : ∀ q ∈ Key.l m :: .l n :: (ks ++ opk x), s q = σ q := fun q hq => hag q (kr_iff.2 hq)
  have hn' : s (.l m) = none := by rw [hag' _ (by simp)]; exact hn
  have ex := ev1r hx hag' (fun q h => by simp [h]) hR rfl ha (by simp)
  obtain ⟨us, h1, h2, h3, h4⟩ := hs s e a w (fun q hq => hag' q (by simp [hq])) hR
  have hu : ∃ p, a.eval x = .slice p 0 0 := by
    rcases ex with e1 | ⟨_, _, p, e3⟩
    · exact ⟨_, e1⟩
    · exact ⟨p, e3⟩
  obtain ⟨p, hu⟩ := hu
  obtain ⟨r, w', e', g1, g2, g3⟩ := hR.append0 (ty := rt) (p := p) hm hn' hT h1 h2 h3 h4 hb'
  exact ⟨r, w', e', run_call_append (by rw [hu]; exact g1), g2, fun _ => g3, new_names rfl⟩
theorem LocalO.appendN (hF : WideLike F) {m k z : Nat} {p : Option Addr} {x y : Operand} {t t2 el rt : TypeId} {b' : B} {vs : List C} {ks : List Key} {i : TypeInfo} {zv : Value} {d : Option Tmp} {pos : String} {af : Array Edge} {g : Option (Nat × Bool)} (hN : dOk c.N d = true)
    (hx : opv σ x = some (.c (.v (.slice p 0 0)))) (hs : SrcOk c σ y k z vs ks) (hT : AppT c.P t t2 el z i zv (0 + k)) (hm : ¬ c.gv m) (hn : σ (.l m) = none)
    (hb' : b'.cellsC = some (true, vs)) :
    LocalO c F nn ⟨d, .call ⟨.builtin .append, #[x, y], #[t, t2]⟩, rt, pos, af, g⟩ σ ⟨kr (.l m :: (ks ++ opk x)), putW d (.c (.g m 0 k k z)) ++ wsNew m b'⟩ := by
  refine LocalO.act hF hN (noDefer rfl) fun s e a w hag hR => ?_
  have hag' : ∀ q ∈ Key.l m :: (ks ++ opk x), s q = σ q := fun q hq => hag q (kr_iff.2 hq)
  have hn' : s (.l m) = none := by rw [hag' _ (by simp)]; exact hn
  have hu := ev1v hx hag' (fun q h => by simp [h]) hR
  obtain ⟨us, h1, h2, h3, h4⟩ := hs s e a w (fun q hq => hag' q (by simp [hq])) hR
  obtain ⟨r, w', e', g1, g2, g3⟩ := hR.append0 (ty := rt) (p := p) hm hn' hT h1 h2 h3 h4 hb'
  exact ⟨r, w', e', run_call_append (by rw [hu]; exact g1), g2, fun _ => g3, new_names rfl⟩

/-! ### Texts -/
theorem foldl_push : ∀ (bs : List UInt8) (r : ByteArray), (bs.map fun b => ((b.toNat : Nat) : Int)).foldl (fun r n => r.push (UInt8.ofNat n.toNat)) r = ⟨(r.data.toList ++ bs).toArray⟩
  | [], r => by simp
  | b :: bs, r => by
    rw [List.map_cons, List.foldl_cons, foldl_push bs]
    simp [ByteArray.push]
theorem run_bytes {P : Program} {b o len cap : Nat} {bs : List UInt8} (hl : bs.length = len) (h : w.rangeAt b o (bs.map u8V)) : (Conv.bytesToString (.slice (some ⟨b, o, none⟩) len cap)).run P w = .ok (.string ⟨bs.toArray⟩) w := by
  have hl' : (loadCells ⟨b, o, none⟩ len).run P w = .ok (bs.map u8V).toArray w := by
    rw [← hl, show bs.length = (bs.map u8V).length by simp]
    exact run_loadCells_list (P := P) w ⟨b, o, none⟩ (bs.map u8V) (fun j v hv => by rw [Addr.add_mid]; exact h j v hv)
  rw [run_bytesToString w ⟨b, o, none⟩ len cap (bs.map fun b => ((b.toNat : Nat) : Int)) (by rw [hl', List.map_map]; rfl), foldl_push]
  simp [ByteArray.empty, ByteArray.emptyWithCapacity]
  try rfl
theorem run_bytes0 {P : Program} {p : Option Addr} {cap : Nat} : (Conv.bytesToString (.slice p 0 cap)).run P w = .ok (.string ⟨#[]⟩) w := by
  cases p with
  | none => rfl
  | some p =>
    obtain ⟨b, o, sp⟩ := p
    have hl' : (loadCells ⟨b, o, sp⟩ 0).run P w = .ok ([] : List Value).toArray w := rfl
    rw [run_bytesToString w ⟨b, o, sp⟩ 0 cap [] (by simpa using hl')]; rfl
theorem run_conv {P : Program} {src dst el : TypeId} {p : Option Addr} {l k : Nat} {Z : Value} (hs : P.underlying src = some (.slice el)) (he : P.underlying el = some (.int .u8)) (hd : P.underlying dst = some .string) (h : (Conv.bytesToString (.slice p l k)).run P w = .ok Z w) : (convert src dst (.slice p l k)).run P w = .ok Z w := by
  rw [run_convert_bytes_string w src dst el p l k hs he hd]; exact h
theorem bytes_src {x : Operand} {n o len : Nat} {b : B} {own : Bool} {l : List C} {bs : List UInt8} {y : C} (hx : opv σ x = some (.c y)) (hy : (∃ cap, y = .s n o len cap) ∨ ∃ lb z, y = .g n o len lb z) (ha : σ (.l n) = some (.l true)) (hb : σ (.b n) = some (.b b)) (hl : b.cellsC = some (own, l)) (hle : o + len ≤ l.length)
    (hbs : (l.drop o).take len = (bs.map u8V).map C.v) {ks : List Key} (hag : ∀ q ∈ ks, s q = σ q) (hk1 : Key.l n ∈ ks) (hk2 : Key.b n ∈ ks) (hsub : ∀ q ∈ opk x, q ∈ ks) (hR : Real c s e a w) :
    ∃ p k, a.eval x = .slice p len k ∧ (Conv.bytesToString (.slice p len k)).run c.P w = .ok (.string ⟨bs.toArray⟩) w := by
  have ex := ev1r hx hag hsub hR (by rcases hy with ⟨_, rfl⟩ | ⟨_, _, rfl⟩ <;> rfl) ha hk1
  have hM := hR.W.cells (n := n) (by rw [hag _ hk1]; exact ha) (by rw [hag _ hk2]; exact hb) hl
  obtain ⟨us, h1, h2, h3⟩ := hM.range o len hle
  rw [hbs] at h2
  have hus := h2.eq
  rw [hus] at h1 h3
  have hlen : bs.length = len := by simpa using h1
  have zero : len = 0 → bs = [] := fun h => List.eq_nil_of_length_eq_zero (by omega)
  rcases hy with ⟨cap, rfl⟩ | ⟨lb, z, rfl⟩
  · rcases ex with ex | ⟨h0, h0', p, ex⟩
    · exact ⟨_, _, ex, run_bytes hlen h3⟩
    · exact ⟨p, 0, by rw [h0]; exact ex, by rw [h0, zero h0]; exact run_bytes0⟩
  · rcases ex with ⟨k, ex, _⟩ | ⟨h0, h0', p, ex⟩
    · exact ⟨_, _, ex, run_bytes hlen h3⟩
    · exact ⟨p, 0, by rw [h0]; exact ex, by rw [h0, zero h0]; exact run_bytes0⟩
theorem LocalO.text (hF : WideLike F) {n o len : Nat} {x : Operand} {y : C} {src dst el rt : TypeId} {b : B} {own : Bool} {l : List C} {bs : List UInt8} {d : Option Tmp} {pos : String} {af : Array Edge} {g : Option (Nat × Bool)} (hN : dOk c.N d = true)
    (hx : opv σ x = some (.c y)) (hy : (∃ cap, y = .s n o len cap) ∨ ∃ lb z, y = .g n o len lb z) (ha : σ (.l n) = some (.l true)) (hb : σ (.b n) = some (.b b)) (hl : b.cellsC = some (own, l)) (hle : o + len ≤ l.length) (hbs : (l.drop o).take len = (bs.map u8V).map C.v)
    (h1 : c.P.underlying src = some (.slice el)) (h2 : c.P.underlying el = some (.int .u8)) (h3 : c.P.underlying dst = some .string) :
    LocalO c F nn ⟨d, .convert src dst x, rt, pos, af, g⟩ σ ⟨kr (.l n :: .b n :: opk x), putW d (.c (.v (.string ⟨bs.toArray⟩)))⟩ := by
  refine LocalO.val hF hN (noDefer rfl) fun s e a w hag hR => ?_
  obtain ⟨p, k, e1, e2⟩ := bytes_src hx hy ha hb hl hle hbs (fun q hq => hag q (kr_iff.2 hq)) (by simp) (by simp) (fun q h => by simp [h]) hR
  refine ⟨_, ?_, Ok.of, fun m hm => by cases hm⟩
  simp only [execOp, e1]
  rw [Sem.run_bind, run_conv h1 h2 h3 e2]; rfl
theorem LocalO.textN (hF : WideLike F) {x : Operand} {k : Nat} {src dst el rt : TypeId} {d : Option Tmp} {pos : String} {af : Array Edge} {g : Option (Nat × Bool)} (hN : dOk c.N d = true) (hx : opv σ x = some (.c (.v (.slice none 0 k))))
    (h1 : c.P.underlying src = some (.slice el)) (h2 : c.P.underlying el = some (.int .u8)) (h3 : c.P.underlying dst = some .string) :
    LocalO c F nn ⟨d, .convert src dst x, rt, pos, af, g⟩ σ ⟨kr (opk x), putW d (.c (.v (.string ⟨#[]⟩)))⟩ := by
  refine LocalO.val hF hN (noDefer rfl) fun s e a w hag hR => ?_
  have ex := ev1v hx (fun q hq => hag q (kr_iff.2 hq)) (fun q h => h) hR
  refine ⟨_, ?_, Ok.of, fun m hm => by cases hm⟩
  simp only [execOp, ex]
  rw [Sem.run_bind, run_conv h1 h2 h3 run_bytes0]; rfl
theorem LocalO.textO (hF : WideLike F) {x : Operand} {b o len k : Nat} {bs : List UInt8} {src dst el rt : TypeId} {d : Option Tmp} {pos : String} {af : Array Edge} {g : Option (Nat × Bool)} (hN : dOk c.N d = true) (hx : opv σ x = some (.c (.v (.slice (some ⟨b, o, none⟩) len k)))) (hl : bs.length = len) (hz : ∀ j v, (bs.map u8V)[j]? = some v → c.w0.cell? ⟨b, o + j, none⟩ = some v) (hti : ¬ c.tch b)
    (h1 : c.P.underlying src = some (.slice el)) (h2 : c.P.underlying el = some (.int .u8)) (h3 : c.P.underlying dst = some .string) :
    LocalO c F nn ⟨d, .convert src dst x, rt, pos, af, g⟩ σ ⟨kr (opk x), putW d (.c (.v (.string ⟨bs.toArray⟩)))⟩ := by
  refine LocalO.val hF hN (noDefer rfl) fun s e a w hag hR => ?_
  have ex := ev1v hx (fun q hq => hag q (kr_iff.2 hq)) (fun q h => h) hR
  refine ⟨_, ?_, Ok.of, fun m hm => by cases hm⟩
  simp only [execOp, ex]
  rw [Sem.run_bind, run_conv h1 h2 h3 (run_bytes hl (fun j v hv => hR.W.old_cell (hz j v hv) hti))]; rfl
theorem bytesWorld_alloc (w : World) (el : TypeId) (b : ByteArray) : Lib.bytesWorld w el b = w.drew.alloc (.cells (Lib.bytesCells w el b) el ((Lib.bytesCells w el b).size, (Lib.bytesCells w el b).size + 1)) := by
  have hh : (Lib.bytesWorld w el b).heap = (w.drew.alloc (.cells (Lib.bytesCells w el b) el ((Lib.bytesCells w el b).size, (Lib.bytesCells w el b).size + 1))).heap := by
    apply Array.ext
    · rw [Lib.bytesWorld_size, World.size_alloc]; rfl
    · intro i h1 h2
      have e1 : ∀ j, (Lib.bytesWorld w el b).heap[j]? = (w.drew.alloc (.cells (Lib.bytesCells w el b) el ((Lib.bytesCells w el b).size, (Lib.bytesCells w el b).size + 1))).heap[j]? := fun j => by
        by_cases hj : j < w.heap.size
        · rw [Lib.bytesWorld_at_old w el b j hj, Below.heap_alloc w.drew _ j hj]; rfl
        · by_cases hj2 : j = w.heap.size
          · subst hj2
            rw [Lib.bytesWorld_at_new]
            exact (World.alloc_heap_new w.drew _).symm
          · rw [Array.getElem?_eq_none (by rw [Lib.bytesWorld_size]; omega), Array.getElem?_eq_none (by rw [World.size_alloc]; show w.heap.size + 1 ≤ j; omega)]
      have := e1 i
      rw [Array.getElem?_eq_getElem h1, Array.getElem?_eq_getElem h2] at this
      exact Option.some.inj this
  have hf : (Lib.bytesWorld w el b) = { (Lib.bytesWorld w el b) with heap := (w.drew.alloc (.cells (Lib.bytesCells w el b) el ((Lib.bytesCells w el b).size, (Lib.bytesCells w el b).size + 1))).heap } := by rw [← hh]
  rw [hf]
  rfl
theorem LocalO.bytes (hF : WideLike F) {m k : Nat} {x : Operand} {b : ByteArray} {bs : List UInt8} {u : TypeDesc} {src dst el rt : TypeId} {d : Option Tmp} {pos : String} {af : Array Edge} {g : Option (Nat × Bool)} (hN : dOk c.N d = true) (hx : opv σ x = some (.c (.v (.string b)))) (hbs : b.data.toList = bs) (hk : bs.length = k) (hle : k ≤ 140737488355328) (hm : ¬ c.gv m) (hn : σ (.l m) = none)
    (h1 : c.P.underlying src = some u) (h2 : c.P.underlying dst = some (.slice el)) (h3 : c.P.underlying el = some (.int .u8)) :
    LocalO c F nn ⟨d, .convert src dst x, rt, pos, af, g⟩ σ ⟨kr (.l m :: opk x), putW d (.c (.g m 0 k k 1)) ++ wsNew m (.w true (bs.map u8V))⟩ := by
  refine LocalO.act hF hN (noDefer rfl) fun s e a w hag hR => ?_
  have ex := ev1v hx (fun q hq => hag q (kr_iff.2 hq)) (fun q h => by simp [h]) hR
  have hn' : s (.l m) = none := by rw [hag _ (kr_iff.2 (by simp))]; exact hn
  have hrun := Lib.run_convert_string_bytes (P := c.P) w src dst el b h1 h2 h3
  rw [bytesWorld_alloc] at hrun
  have hsz : b.size = k := by rw [← hk, ← hbs]; simp
  have hge := grownCap_ge w b.size 0 el
  have hgl := grownCap_le_maxLen w b.size 0 el (by simp only [maxLen]; omega)
  have hcs : (Lib.bytesCells w el b).size = grownCap w b.size 0 el := by
    simp only [Lib.bytesCells, Array.size_append, Array.size_map, Array.size_replicate]
    have : b.data.size = b.size := rfl
    omega
  refine ⟨_, _, e.set m w.heap.size 0 (grownCap w b.size 0 el), by simp only [execOp, ex]; rw [Sem.run_bind, hrun]; rfl, (hR.drawn (w.drawn + 1)).new hm hn' _ _ ?_ (fun k hk => by cases hk), fun _ => .inl ⟨grownCap w b.size 0 el, ?_, by omega, by omega, hgl, by rw [Env.set_rm]; omega⟩, new_names rfl⟩
  · refine ⟨by rw [Env.set_rm]; simp; omega, .inr ⟨Lib.bytesCells w el b, el, _, by rw [Env.set_id]; exact World.alloc_heap_new w.drew _, fun _ => ?_, by rw [Env.set_bs, Env.set_rm, hcs]; omega, fun i y hy => ?_⟩⟩
    · rw [Env.set_rm, Env.set_bs]; simp only [hcs]; omega
    · rw [Env.set_bs, Nat.zero_add]
      simp only [List.map_map, List.getElem?_map, Option.map_eq_some_iff] at hy
      obtain ⟨v, hv, rfl⟩ := hy
      have hil : i < bs.length := (List.getElem?_eq_some_iff.1 hv).1
      refine ⟨u8V v, ?_, rfl, fun _ => rfl⟩
      rw [← hbs] at hv hil
      have h5 : i < b.data.size := by simpa using hil
      simp only [Lib.bytesCells, Array.getElem?_append, Array.size_map, h5, if_true, Array.getElem?_map]
      rw [Array.getElem?_toList] at hv
      rw [hv]; rfl
  · rw [Env.set_id, Env.set_bs, hsz]
/-- A row of bytes converted to its own type gets a mark behind its last cell. -/
theorem LocalO.bmark (hF : WideLike F) {n o len cap : Nat} {x : Operand} {t el rt : TypeId} {b : B} {l : List C} {d : Option Tmp} {pos : String} {af : Array Edge} {g : Option (Nat × Bool)} (hN : dOk c.N d = true) (hx : opv σ x = some (.c (.s n o len cap))) (ha : σ (.l n) = some (.l true)) (hb : σ (.b n) = some (.b b)) (hl : b.cellsC = some (true, l)) (h0 : l ≠ []) (h00 : 0 < len + cap)
    (h1 : c.P.underlying t = some (.slice el)) (h2 : c.P.underlying el = some (.int .u8)) :
    LocalO c F nn ⟨d, .convert t t x, rt, pos, af, g⟩ σ ⟨kr (.l n :: .b n :: opk x), putW d (.c (.s n o len cap)) ++ [(.b n, .b b)]⟩ := by
  refine LocalO.act hF hN (noDefer rfl) fun s e a w hag hR => ?_
  have hag' : ∀ q ∈ Key.l n :: .b n :: opk x, s q = σ q := fun q hq => hag q (kr_iff.2 hq)
  have ex := ev1r hx hag' (fun q h => by simp [h]) hR rfl ha (by simp)
  have ha' : s (.l n) = some (.l true) := by rw [hag' _ (by simp)]; exact ha
  have hb' : s (.b n) = some (.b b) := by rw [hag' _ (by simp)]; exact hb
  have ex : a.eval x = .slice (some ⟨e.id n, e.bs n + o, none⟩) len cap := by
    rcases ex with ex | ⟨e1, e2, _⟩
    · exact ex
    · omega
  have hM := hR.W.cells ha' hb' hl
  obtain ⟨m1, m2⟩ := hM
  have hlen : 0 < l.length := by cases l with
    | nil => exact absurd rfl h0
    | cons _ _ => simp
  rcases m2 with m2 | ⟨cs, ty, fz, m3, m4, m5, m6⟩
  · omega
  have hsh : w.shape? (e.id n) = some (ty, cs.size) := by simp [World.shape?, m3]
  have hlt : e.id n < w.heap.size := (Array.getElem?_eq_some_iff.1 m3).1
  obtain ⟨f1, f2⟩ := fz
  have hfr : (w.freeze ⟨e.id n, cs.size, none⟩ 1).heap[e.id n]? = some (.cells cs ty (if f1 == f2 then (cs.size, cs.size + 1) else (min f1 cs.size, max f2 (cs.size + 1)))) := by
    unfold World.freeze
    rw [if_neg (by decide)]
    simp [Array.getElem?_modify, m3]
  have hfo : ∀ k, k ≠ e.id n → (w.freeze ⟨e.id n, cs.size, none⟩ 1).heap[k]? = w.heap[k]? := fun k hk => by
    unfold World.freeze
    rw [if_neg (by decide)]
    simp only [Array.getElem?_modify]
    rw [if_neg (fun h => hk h.symm)]
  have hsz : w.heap.size ≤ (w.freeze ⟨e.id n, cs.size, none⟩ 1).heap.size := by
    unfold World.freeze
    rw [if_neg (by decide)]
    simp
  obtain ⟨ho, hdf⟩ := cellsC_own hl
  have hl' : ∀ k, upd s [(.b n, .b b)] (.l k) = s (.l k) := fun k => by rw [upd_cons_ne _ _ _ (by simp), upd_nil]
  refine ⟨.slice (some ⟨e.id n, e.bs n + o, none⟩) len cap, w.freeze ⟨e.id n, cs.size, none⟩ 1, e, ?_, hR.chg ha' hb' hdf ho (by omega) hfo hsz ?_ ?_ ?_ (cellsC_ok hl ⟨m1, .inr ⟨cs, ty, _, hfr, fun _ => ?_, m5, fun i y hy => ?_⟩⟩) (fun k hk => hR.W.cl.1 (.b n) (.b b) hb' k hk), fun _ => .inl rfl, fun k hk => ?_⟩
  · simp only [execOp, ex]
    simp [Go.convert, run_underlying h1, run_underlying h2, markStringish, hsh]
  · unfold World.freeze; rw [if_neg (by decide)]
  · unfold World.freeze; rw [if_neg (by decide)]
  · unfold World.freeze; rw [if_neg (by decide)]
  · have := m4 rfl
    split
    · right; exact m5
    · rename_i hne
      right
      have hne' : f1 ≠ f2 := by simpa using hne
      simp only at this ⊢
      omega
  · obtain ⟨u, g1, g2⟩ := m6 i y hy
    exact ⟨u, g1, g2.one, g2.ok.mono fun m _ => ⟨fun hv => by unfold live at *; rw [← hl']; exact hv, .rfl⟩⟩
  · rw [hl']
    simp only [V.names, C.names, List.mem_singleton] at hk
    subst hk; rw [ha']; simp
end
end Go.Proofs.Ytbjogekhedglgaa.EV
