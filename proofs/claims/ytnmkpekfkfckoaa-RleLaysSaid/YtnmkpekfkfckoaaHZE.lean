/- Walking over named blocks: a contract over few blocks, at a call where there are more, and by other names. No program in sight. Walking over named blocks: rows of records whose number is not known; blocks of plain values. No program in sight. Walking over named blocks: rounds of loops over functions as contracts over few blocks; the loops. No program in sight. Walking over named blocks: an empty slice told as one with a block of its own; loops whose rounds give names anew. No program in sight. -/
import Derived.Test.YtnmkpekfkfckoaaHZD
namespace Go.Proofs.Ytnmkpekfkfckoaa.EW
set_option linter.unusedSectionVars false
set_option linter.unusedSimpArgs false
set_option linter.unusedVariables false
open Go.RowKit EV
open SX (Is)
def Cren (ρ : Nat → Nat) : C → C
  | .v x => .v x
  | .p n o => .p (ρ n) o
  | .s n o l k => .s (ρ n) o l k
  | .g n o l b z => .g (ρ n) o l b z
  | .f g caps => .f g (caps.map fun q => (ρ q.1, q.2))
  | .y n => .y (ρ n)
def Pren (ρ : Nat → Nat) : C ⊕ List C → C ⊕ List C
  | .inl x => .inl (Cren ρ x)
  | .inr l => .inr (l.map (Cren ρ))
def Vren (ρ : Nat → Nat) : V → V
  | .c x => .c (Cren ρ x)
  | .a l => .a (l.map (Cren ρ))
  | .t l => .t (l.map (Pren ρ))
def Bren (ρ : Nat → Nat) : B → B
  | .m o l => .m o (l.map (Cren ρ))
  | .w o l => .w o l
  | .lp r => .lp { r with ts := r.ts.map fun x => (x.1, Vren ρ x.2), D := ρ r.D }
  | .df => .df
theorem Cren_names (ρ : Nat → Nat) (x : C) : (Cren ρ x).names = x.names.map ρ := by
  cases x <;> simp [Cren, C.names, Function.comp_def]
theorem flat_names (ρ : Nat → Nat) : ∀ l : List C, (l.map (Cren ρ)).flatMap C.names = (l.flatMap C.names).map ρ
  | [] => rfl
  | x :: l => by rw [List.map_cons, List.flatMap_cons, List.flatMap_cons, List.map_append, Cren_names, flat_names ρ l]
theorem Pren_names (ρ : Nat → Nat) (x : C ⊕ List C) : namesP (Pren ρ x) = (namesP x).map ρ := by
  cases x with
  | inl x => exact Cren_names ρ x
  | inr l => exact flat_names ρ l
theorem flatP_names (ρ : Nat → Nat) : ∀ l : List (C ⊕ List C), (l.map (Pren ρ)).flatMap namesP = (l.flatMap namesP).map ρ
  | [] => rfl
  | x :: l => by rw [List.map_cons, List.flatMap_cons, List.flatMap_cons, List.map_append, Pren_names, flatP_names ρ l]
theorem Vren_names (ρ : Nat → Nat) (v : V) : (Vren ρ v).names = v.names.map ρ := by
  cases v with
  | c x => exact Cren_names ρ x
  | a l => exact flat_names ρ l
  | t l => exact flatP_names ρ l
theorem flatT_names (ρ : Nat → Nat) : ∀ l : List (Nat × V), (l.map fun x => (x.1, Vren ρ x.2)).flatMap (fun x => x.2.names) = (l.flatMap fun x => x.2.names).map ρ
  | [] => rfl
  | x :: l => by rw [List.map_cons, List.flatMap_cons, List.flatMap_cons, List.map_append, Vren_names, flatT_names ρ l]
theorem Bren_names (ρ : Nat → Nat) (b : B) : (Bren ρ b).names = b.names.map ρ := by
  cases b with
  | m o l => exact flat_names ρ l
  | w o l => rfl
  | lp r => simp only [Bren, B.names, List.map_cons, flatT_names]
  | df => rfl
theorem Bren_own (ρ : Nat → Nat) (b : B) : (Bren ρ b).own = b.own := by cases b <;> rfl
theorem Cren_id (x : C) : Cren (fun n => n) x = x := by cases x <;> simp [Cren]
theorem Cren_idf : (Cren fun n => n) = id := funext Cren_id
theorem Pren_id (x : C ⊕ List C) : Pren (fun n => n) x = x := by
  cases x with
  | inl x => simp [Pren, Cren_id]
  | inr l => simp [Pren, Cren_idf]
theorem Pren_idf : (Pren fun n => n) = id := funext Pren_id
theorem Vren_id (v : V) : Vren (fun n => n) v = v := by
  cases v with
  | c x => simp [Vren, Cren_id]
  | a l => simp [Vren, Cren_idf]
  | t l => simp [Vren, Pren_idf]
theorem Bren_id (b : B) : Bren (fun n => n) b = b := by
  cases b with
  | m o l => simp [Bren, Cren_idf]
  | w o l => rfl
  | lp r => simp [Bren, Vren_id]
  | df => rfl
/-- What is said by one set of names is said by another one. -/
structure Tr2 (s1 : Sf) (e1 : Env) (ρ1 : Nat → Nat) (s2 : Sf) (e2 : Env) (ρ2 : Nat → Nat) (n : Nat) : Prop where
  l : live s2 (ρ2 n) → live s1 (ρ1 n)
  id : e1.id (ρ1 n) = e2.id (ρ2 n)
  bs : e1.bs (ρ1 n) = e2.bs (ρ2 n)
  rm : e1.rm (ρ1 n) = e2.rm (ρ2 n)
section
variable {s1 s2 : Sf} {e1 e2 : Env} {ρ1 ρ2 : Nat → Nat} {w1 w2 : World}
theorem Ok.tr {x : C} {u : Value} (h : ∀ n ∈ x.names, Tr2 s1 e1 ρ1 s2 e2 ρ2 n) (k : Ok s1 e1 (Cren ρ1 x) u) : Ok s2 e2 (Cren ρ2 x) u := fun hl => by
  have hr := k fun n hn => by
    rw [Cren_names, List.mem_map] at hn
    obtain ⟨m, hm, rfl⟩ := hn
    exact (h m hm).l (hl _ (by rw [Cren_names]; exact List.mem_map.2 ⟨m, hm, rfl⟩))
  cases x with
  | v x => exact hr
  | p n o => obtain ⟨_, h1, h2, h3⟩ := h n (by simp [C.names]); simpa only [Cren, Rep, h1, h2] using hr
  | s n o l k => obtain ⟨_, h1, h2, h3⟩ := h n (by simp [C.names]); simpa only [Cren, Rep, h1, h2] using hr
  | g n o l b z => obtain ⟨_, h1, h2, h3⟩ := h n (by simp [C.names]); simpa only [Cren, Rep, h1, h2, h3] using hr
  | f g caps =>
    simp only [Cren, Rep, List.map_map] at hr ⊢
    rw [hr]
    congr 2
    refine List.map_congr_left fun q hq => ?_
    obtain ⟨_, h1, h2, _⟩ := h q.1 (List.mem_map.2 ⟨q, hq, rfl⟩)
    simp [h1, h2]
  | y n => obtain ⟨_, h1, h2, h3⟩ := h n (by simp [C.names]); simpa only [Cren, Rep, h1] using hr
theorem Okc.tr {x : C} {u : Value} (h : ∀ n ∈ x.names, Tr2 s1 e1 ρ1 s2 e2 ρ2 n) (k : Okc s1 e1 (Cren ρ1 x) u) : Okc s2 e2 (Cren ρ2 x) u := ⟨k.one, Ok.tr h k.ok⟩
theorem OkL.tr : ∀ {l : List C} {us : List Value}, (∀ n ∈ l.flatMap C.names, Tr2 s1 e1 ρ1 s2 e2 ρ2 n) → OkL s1 e1 (l.map (Cren ρ1)) us → OkL s2 e2 (l.map (Cren ρ2)) us
  | [], _, _, h => h
  | x :: l, _, hn, ⟨u, r, hu, h1, h2⟩ => ⟨u, r, hu, Okc.tr (fun n hm => hn n (by simp [List.flatMap_cons, hm])) h1, OkL.tr (fun n hm => hn n (by rw [List.flatMap_cons]; exact List.mem_append_right _ hm)) h2⟩
theorem OkP.tr {x : C ⊕ List C} {u : Value} (hn : ∀ n ∈ namesP x, Tr2 s1 e1 ρ1 s2 e2 ρ2 n) (h : OkP s1 e1 (Pren ρ1 x) u) : OkP s2 e2 (Pren ρ2 x) u := by
  cases x with
  | inl x => exact Ok.tr hn h
  | inr l => obtain ⟨us, hu, hl⟩ := h; exact ⟨us, hu, OkL.tr hn hl⟩
theorem OkT.tr : ∀ {l : List (C ⊕ List C)} {us : List Value}, (∀ n ∈ l.flatMap namesP, Tr2 s1 e1 ρ1 s2 e2 ρ2 n) → OkT s1 e1 (l.map (Pren ρ1)) us → OkT s2 e2 (l.map (Pren ρ2)) us
  | [], _, _, h => h
  | x :: l, _, hn, ⟨u, r, hu, h1, h2⟩ => ⟨u, r, hu, OkP.tr (fun n hm => hn n (by simp [List.flatMap_cons, hm])) h1, OkT.tr (fun n hm => hn n (by rw [List.flatMap_cons]; exact List.mem_append_right _ hm)) h2⟩
theorem OkV.tr {v : V} {u : Value} (hn : ∀ n ∈ v.names, Tr2 s1 e1 ρ1 s2 e2 ρ2 n) (h : OkV s1 e1 (Vren ρ1 v) u) : OkV s2 e2 (Vren ρ2 v) u := by
  cases v with
  | c x => exact Ok.tr hn h
  | a l => obtain ⟨us, hu, hl⟩ := h; exact ⟨us, hu, OkL.tr hn hl⟩
  | t l => obtain ⟨us, hu, hl⟩ := h; exact ⟨us, hu, OkT.tr hn hl⟩
theorem OkVs.tr : ∀ {vs : List V} {us : List Value}, (∀ v ∈ vs, ∀ n ∈ v.names, Tr2 s1 e1 ρ1 s2 e2 ρ2 n) → OkVs s1 e1 (vs.map (Vren ρ1)) us → OkVs s2 e2 (vs.map (Vren ρ2)) us
  | [], _, _, h => h
  | v :: vs, _, hn, ⟨u, r, hu, h1, h2⟩ => ⟨u, r, hu, OkV.tr (hn v List.mem_cons_self) h1, OkVs.tr (fun y hy => hn y (List.mem_cons_of_mem _ hy)) h2⟩
theorem MOk.tr {n : Nat} {own : Bool} {l : List C} (hn : Tr2 s1 e1 ρ1 s2 e2 ρ2 n) (hl : ∀ m ∈ l.flatMap C.names, Tr2 s1 e1 ρ1 s2 e2 ρ2 m) (hw : e1.rm (ρ1 n) ≠ 0 → w2.heap[e1.id (ρ1 n)]? = w1.heap[e1.id (ρ1 n)]?) (h : MOk s1 e1 w1 (ρ1 n) own (l.map (Cren ρ1))) : MOk s2 e2 w2 (ρ2 n) own (l.map (Cren ρ2)) := by
  obtain ⟨h1, h2⟩ := h
  refine ⟨by rw [← hn.rm]; simpa using h1, ?_⟩
  rw [← hn.rm, ← hn.id, ← hn.bs]
  rcases h2 with h2 | ⟨cs, ty, fz, h2, h3, h4, h5⟩
  · exact .inl h2
  · by_cases h0 : e1.rm (ρ1 n) = 0
    · exact .inl h0
    · refine .inr ⟨cs, ty, fz, by rw [hw h0]; exact h2, h3, h4, fun i x hx => ?_⟩
      rw [List.getElem?_map, Option.map_eq_some_iff] at hx
      obtain ⟨y, hy, rfl⟩ := hx
      obtain ⟨u, g1, g2⟩ := h5 i (Cren ρ1 y) (by rw [List.getElem?_map, hy]; rfl)
      exact ⟨u, g1, Okc.tr (fun m hm => hl m (List.mem_flatMap.2 ⟨y, List.mem_of_getElem? hy, hm⟩)) g2⟩
theorem BOk.tr {n : Nat} {b : B} (hn : Tr2 s1 e1 ρ1 s2 e2 ρ2 n) (hl : ∀ m ∈ b.names, Tr2 s1 e1 ρ1 s2 e2 ρ2 m) (hw : e1.rm (ρ1 n) ≠ 0 → w2.heap[e1.id (ρ1 n)]? = w1.heap[e1.id (ρ1 n)]?) (h : BOk s1 e1 w1 (ρ1 n) (Bren ρ1 b)) : BOk s2 e2 w2 (ρ2 n) (Bren ρ2 b) := by
  cases b with
  | m o l => exact MOk.tr hn hl hw h
  | w o l =>
    have e : ∀ ρ, (l.map C.v).map (Cren ρ) = l.map C.v := fun ρ => by rw [List.map_map]; rfl
    have := MOk.tr (l := l.map C.v) (w2 := w2) hn (fun m hm => by rw [plain_names] at hm; cases hm) hw (by rw [e]; exact h)
    rw [e] at this; exact this
  | lp r =>
    obtain ⟨h1, fn, tm, h2, h3, h4⟩ := h
    refine ⟨by rw [← hn.rm]; exact h1, fn, tm, ?_, h3, fun i v hv => ?_⟩
    · rw [← hn.id, hw (by omega), h2]
      simp only [Bren, (hl r.D (by simp [B.names])).id]
    · simp only [Bren, List.mem_map] at hv
      obtain ⟨⟨j, y⟩, hy, he⟩ := hv
      cases he
      obtain ⟨u, g1, g2⟩ := h4 j (Vren ρ1 y) (List.mem_map.2 ⟨(j, y), hy, rfl⟩)
      exact ⟨u, g1, OkV.tr (fun m hm => hl m (by
        show m ∈ r.D :: r.ts.flatMap fun x => x.2.names
        exact List.mem_cons_of_mem _ (List.mem_flatMap.2 ⟨_, hy, hm⟩))) g2⟩
  | df =>
    obtain ⟨h1, h2⟩ := h
    exact ⟨by rw [← hn.rm]; exact h1, by rw [← hn.id, hw (by omega)]; exact h2⟩
end
/-- A list of names, then those from m on. -/
def rn (ns : List Nat) (m : Nat) (i : Nat) : Nat := match ns[i]? with
  | some n => n
  | none => m + (i - ns.length)
def inL : List Nat → Nat → Bool
  | [], _ => false
  | k :: l, n => Nat.beq k n || inL l n
def rnOk (m : Nat) : List Nat → Bool
  | [] => true
  | n :: l => Nat.blt n m && (!inL l n && rnOk m l)
theorem inL_iff {l : List Nat} {n : Nat} : inL l n = true ↔ n ∈ l := by
  induction l with
  | nil => simp [inL]
  | cons k l ih => simp only [inL, Bool.or_eq_true, ih, List.mem_cons, Nat.beq_eq]; exact or_congr ⟨fun h => h.symm, fun h => h.symm⟩ .rfl
theorem rnOk_spec {m : Nat} : ∀ {l : List Nat}, rnOk m l = true → l.Nodup ∧ ∀ n ∈ l, n < m
  | [], _ => ⟨List.nodup_nil, fun n h => by cases h⟩
  | n :: l, h => by
    simp only [rnOk, Bool.and_eq_true, Bool.not_eq_true'] at h
    obtain ⟨h1, h2⟩ := rnOk_spec h.2.2
    refine ⟨List.nodup_cons.2 ⟨fun hn => ?_, h1⟩, fun k hk => ?_⟩
    · rw [inL_iff.2 hn] at h; exact absurd h.2.1 (by simp)
    · rcases List.mem_cons.1 hk with rfl | hk
      · simpa [Nat.blt_eq] using h.1
      · exact h2 k hk
theorem rn_lt {ns : List Nat} {m i : Nat} (h : i < ns.length) : rn ns m i = ns[i] := by simp [rn, List.getElem?_eq_getElem h]
theorem rn_ge {ns : List Nat} {m i : Nat} (h : ns.length ≤ i) : rn ns m i = m + (i - ns.length) := by simp [rn, List.getElem?_eq_none h]
theorem rn_inj {ns : List Nat} {m i j : Nat} (h : rnOk m ns = true) (e : rn ns m i = rn ns m j) : i = j := by
  obtain ⟨h1, h2⟩ := rnOk_spec h
  rcases Nat.lt_or_ge i ns.length with hi | hi <;> rcases Nat.lt_or_ge j ns.length with hj | hj
  · rw [rn_lt hi, rn_lt hj] at e; exact (List.getElem_inj h1).1 e
  · rw [rn_lt hi, rn_ge hj] at e; have := h2 _ (List.getElem_mem hi); omega
  · rw [rn_ge hi, rn_lt hj] at e; have := h2 _ (List.getElem_mem hj); omega
  · rw [rn_ge hi, rn_ge hj] at e; omega
/-- What a contract asks of the blocks at a call. -/
def atW (σ : Sf) (ρ : Nat → Nat) : Ws → Prop
  | [] => True
  | (.l n, .l true) :: r => σ (.l (ρ n)) = some (.l true) ∧ atW σ ρ r
  | (.b n, .b b) :: r => σ (.b (ρ n)) = some (.b (Bren ρ b)) ∧ atW σ ρ r
  | _ :: _ => False
def KVren (ρ : Nat → Nat) : KV → KV
  | .b b => .b (Bren ρ b)
  | .v v => .v (Vren ρ v)
  | .l a => .l a
def Kren (ρ : Nat → Nat) : Key → Key
  | .l n => .l (ρ n)
  | .b n => .b (ρ n)
  | .t i => .t i
def renW (ρ : Nat → Nat) (W : Ws) : Ws := W.map fun x => (Kren ρ x.1, KVren ρ x.2)
theorem Kren_inj {ρ : Nat → Nat} (hi : ∀ i j, ρ i = ρ j → i = j) {a b : Key} (h : Kren ρ a = Kren ρ b) : a = b := by
  cases a <;> cases b <;> simp only [Kren, Key.l.injEq, Key.b.injEq, Key.t.injEq, reduceCtorEq] at h ⊢ <;> first | exact h | exact hi _ _ h
theorem look_renW {ρ : Nat → Nat} (hi : ∀ i j, ρ i = ρ j → i = j) (q : Key) : ∀ W : Ws, lookW (renW ρ W) (Kren ρ q) = (lookW W q).map (KVren ρ)
  | [] => rfl
  | (k, x) :: r => by
    have ih := look_renW hi q r
    simp only [renW, List.map_cons, lookW] at ih ⊢
    by_cases h : k = q
    · subst h; simp [Key.beq_refl]
    · rw [Key.beq_ne h, Key.beq_ne (fun e => h (Kren_inj hi e))]
      simpa using ih
theorem look_renW_img {ρ : Nat → Nat} {q : Key} {y : KV} {W : Ws} (h : lookW (renW ρ W) q = some y) : ∃ x ∈ W, Kren ρ x.1 = q := by
  have := look_mem h
  simp only [renW, List.mem_map] at this
  obtain ⟨x, hx, he⟩ := this
  exact ⟨x, hx, by rw [Prod.mk.injEq] at he; exact he.1⟩
theorem atW_l {σ : Sf} {ρ : Nat → Nat} {n : Nat} {x : KV} : ∀ {W : Ws}, atW σ ρ W → (Key.l n, x) ∈ W → σ (.l (ρ n)) = some (.l true)
  | (.l k, .l true) :: r, h, hm => by
    rcases List.mem_cons.1 hm with e | hm
    · cases e; exact h.1
    · exact atW_l h.2 hm
  | (.b k, .b b) :: r, h, hm => by
    rcases List.mem_cons.1 hm with e | hm
    · cases e
    · exact atW_l h.2 hm
  | (.l k, .l false) :: r, h, _ => h.elim
  | (.l k, .v _) :: r, h, _ => h.elim
  | (.l k, .b _) :: r, h, _ => h.elim
  | (.b k, .v _) :: r, h, _ => h.elim
  | (.b k, .l _) :: r, h, _ => h.elim
  | (.t k, _) :: r, h, _ => h.elim
theorem atW_b {σ : Sf} {ρ : Nat → Nat} {n : Nat} {b : B} : ∀ {W : Ws}, atW σ ρ W → (Key.b n, KV.b b) ∈ W → σ (.b (ρ n)) = some (.b (Bren ρ b))
  | (.l k, .l true) :: r, h, hm => by
    rcases List.mem_cons.1 hm with e | hm
    · cases e
    · exact atW_b h.2 hm
  | (.b k, .b b) :: r, h, hm => by
    rcases List.mem_cons.1 hm with e | hm
    · cases e; exact h.1
    · exact atW_b h.2 hm
  | (.l k, .l false) :: r, h, _ => h.elim
  | (.l k, .v _) :: r, h, _ => h.elim
  | (.l k, .b _) :: r, h, _ => h.elim
  | (.b k, .v _) :: r, h, _ => h.elim
  | (.b k, .l _) :: r, h, _ => h.elim
  | (.t k, _) :: r, h, _ => h.elim
/-- The blocks a contract begins with: names below k, each held and alive. -/
def w0Ok (k : Nat) (W0 : Ws) : Bool := (W0.all fun x => match x.1, x.2 with
    | .l n, .l true => Nat.blt n k
    | .b n, .b b => Nat.blt n k && b.names.all fun m => Nat.blt m k
    | _, _ => false) && (List.range k).all fun n => (match lookW W0 (.l n) with | some (.l true) => true | _ => false) && (match lookW W0 (.b n) with | some (.b _) => true | _ => false)
/-- What it leaves: names below hi; the new ones its own. -/
def wcOk (k hi : Nat) (Wc : Ws) : Bool := Wc.all fun x => match x.1, x.2 with
    | .l n, .l _ => Nat.blt n hi && (Nat.blt n k || (lookW Wc (.b n)).isSome)
    | .b n, .b b => Nat.blt n hi && ((Nat.blt n k || (b.own && (lookW Wc (.l n)).isSome)) && b.names.all fun m => Nat.blt m hi && (Nat.blt m k || (lookW Wc (.l m)).isSome))
    | _, _ => false
section
variable {k hi m : Nat} {W0 Wc : Ws} {ns : List Nat}
structure W0Spec (k : Nat) (h0 : Sf) (W0 : Ws) : Prop where
  l : ∀ i, i < k → h0 (.l i) = some (.l true) ∧ ∃ x, (Key.l i, x) ∈ W0
  b : ∀ i, i < k → ∃ b, h0 (.b i) = some (.b b) ∧ (Key.b i, KV.b b) ∈ W0 ∧ ∀ m ∈ b.names, m < k
  l0 : ∀ n, k ≤ n → h0 (.l n) = none
  b0 : ∀ n, k ≤ n → h0 (.b n) = none
  t0 : ∀ i, h0 (.t i) = none
theorem w0_spec (h : w0Ok k W0 = true) : W0Spec k (upd emp W0) W0 := by
  simp only [w0Ok, Bool.and_eq_true, List.all_eq_true] at h
  obtain ⟨h1, h2⟩ := h
  have e0 : ∀ q, upd emp W0 q = lookW W0 q := fun q => by simp [upd, emp]
  have key : ∀ q, k ≤ (match q with | .l n => n | .b n => n | .t _ => k) → lookW W0 q = none := fun q hq => by
    cases hl : lookW W0 q with
    | none => rfl
    | some x =>
      have := h1 _ (look_mem hl)
      cases q with
      | t i => simp at this
      | l n => cases x <;> simp [Nat.blt_eq] at this; rename_i a; cases a <;> simp at this; simp only at hq; omega
      | b n => cases x <;> simp [Nat.blt_eq] at this; simp only at hq; omega
  refine ⟨fun i hi => ?_, fun i hi => ?_, fun n hn => by rw [e0]; exact key _ hn, fun n hn => by rw [e0]; exact key _ hn, fun i => by rw [e0]; exact key _ (Nat.le_refl _)⟩
  · have := (h2 i (List.mem_range.2 hi)).1
    rw [e0]
    split at this
    · rename_i hl; exact ⟨hl, _, look_mem hl⟩
    · cases this
  · have := (h2 i (List.mem_range.2 hi)).2
    rw [e0]
    split at this
    · rename_i b hl
      have hm := h1 _ (look_mem hl)
      simp only [Bool.and_eq_true, List.all_eq_true] at hm
      exact ⟨b, hl, look_mem hl, fun m hm' => by simpa [Nat.blt_eq] using hm.2 m hm'⟩
    · cases this
theorem W0Spec.cl {h0 : Sf} (h : W0Spec k h0 W0) : Cl h0 := by
  refine ⟨fun q x hx n hn => ?_, fun n hn => ?_⟩
  · cases q with
    | t i => rw [h.t0] at hx; cases hx
    | l i =>
      rcases Nat.lt_or_ge i k with hi | hi
      · rw [(h.l i hi).1] at hx; cases hx; cases hn
      · rw [h.l0 i hi] at hx; cases hx
    | b i =>
      rcases Nat.lt_or_ge i k with hi | hi
      · obtain ⟨b, h1, _, h2⟩ := h.b i hi
        rw [h1] at hx; cases hx
        rw [(h.l n (h2 n hn)).1]; simp
      · rw [h.b0 i hi] at hx; cases hx
  · rcases Nat.lt_or_ge n k with hi | hi
    · rw [(h.l n hi).1]; simp
    · exact absurd (h.b0 n hi) hn
def eAt (e : Env) (ρ : Nat → Nat) : Env := ⟨fun n => e.id (ρ n), fun n => e.bs (ρ n), fun n => e.rm (ρ n)⟩
def eMix (e e0 : Env) (k m hi : Nat) : Env := ⟨fun n => if m ≤ n ∧ n < m + (hi - k) then e0.id (n - m + k) else e.id n, fun n => if m ≤ n ∧ n < m + (hi - k) then e0.bs (n - m + k) else e.bs n, fun n => if m ≤ n ∧ n < m + (hi - k) then e0.rm (n - m + k) else e.rm n⟩
theorem eMix_old {e e0 : Env} {n : Nat} (h : ¬ (m ≤ n ∧ n < m + (hi - k))) : e.same (eMix e e0 k m hi) n := ⟨(if_neg h).symm, (if_neg h).symm, (if_neg h).symm⟩
def tch0 (k : Nat) (h0 : Sf) (e : Env) (ρ : Nat → Nat) (x : Nat) : Prop := ∃ i b, i < k ∧ h0 (.b i) = some (.b b) ∧ b.own = true ∧ e.rm (ρ i) ≠ 0 ∧ x = e.id (ρ i)
variable {c : Ctx} {F : Fence} {nn : Nat} {s : Sf} {e : Env} {a : Act} {w w' : World}
/-- What is asked at a call. -/
structure AtOk (c : Ctx) (s : Sf) (k hi m : Nat) (W0 Wc : Ws) (ns : List Nat) : Prop where
  len : ns.length = k
  le : k ≤ hi
  w0 : w0Ok k W0 = true
  wc : wcOk k hi Wc = true
  nd : rnOk m ns = true
  at_ : atW s (rn ns m) W0
  fr : ∀ n, m ≤ n → n < m + (hi - k) → s (.l n) = none
  gv : ∀ n, m ≤ n → n < m + (hi - k) → ¬ c.gv n
  fm : ∀ n ∈ c.fm, n ∉ ns
theorem Real.at (hR : Real c s e a w) (hA : AtOk c s k hi m W0 Wc ns) :
    RealW ⟨c.P, w, tch0 k (upd emp W0) e (rn ns m), fun n => n < k, eAt e (rn ns m), 0, []⟩ (upd emp W0) (eAt e (rn ns m)) w ∧
    (∀ vs us, (∀ v ∈ vs, ∀ n ∈ v.names, n < k) → OkVs s e (vs.map (Vren (rn ns m))) us → OkVs (upd emp W0) (eAt e (rn ns m)) vs us) ∧
    ∀ e0 w', RealW ⟨c.P, w, tch0 k (upd emp W0) e (rn ns m), fun n => n < k, eAt e (rn ns m), 0, []⟩ (upd (upd emp W0) Wc) e0 w' →
      Real c (upd s (renW (rn ns m) Wc)) (eMix e e0 k m hi) a w' ∧ ∀ v u, OkV (upd (upd emp W0) Wc) e0 v u → (∀ n ∈ v.names, upd (upd emp W0) Wc (.l n) ≠ none) → OkV (upd s (renW (rn ns m) Wc)) (eMix e e0 k m hi) (Vren (rn ns m) v) u ∧ ∀ n ∈ (Vren (rn ns m) v).names, upd s (renW (rn ns m) Wc) (.l n) ≠ none := by
  have S := w0_spec hA.w0
  generalize hh0 : upd emp W0 = h0 at S ⊢
  generalize hρ : rn ns m = ρ at *
  have inj : ∀ i j, ρ i = ρ j → i = j := fun i j h => by rw [← hρ] at h; exact rn_inj hA.nd h
  have hsl : ∀ i, i < k → s (.l (ρ i)) = some (.l true) := fun i hi => by
    obtain ⟨_, x, hx⟩ := S.l i hi
    have := hA.at_; rw [hρ] at this; exact atW_l this hx
  have hsb : ∀ i b, i < k → h0 (.b i) = some (.b b) → s (.b (ρ i)) = some (.b (Bren ρ b)) := fun i b hi hb => by
    obtain ⟨b', h1, h2, _⟩ := S.b i hi
    rw [h1] at hb; cases hb
    have := hA.at_; rw [hρ] at this; exact atW_b this h2
  have ltk : ∀ n, h0 (.l n) ≠ none → n < k := fun n h => by
    rcases Nat.lt_or_ge n k with h1 | h1
    · exact h1
    · exact absurd (S.l0 n h1) h
  have ltkb : ∀ n, h0 (.b n) ≠ none → n < k := fun n h => by
    rcases Nat.lt_or_ge n k with h1 | h1
    · exact h1
    · exact absurd (S.b0 n h1) h
  have ρlt : ∀ i, i < k → ρ i < m := fun i hi => by
    rw [← hρ, rn_lt (by rw [hA.len]; exact hi)]; exact (rnOk_spec hA.nd).2 _ (List.getElem_mem _)
  have ρge : ∀ i, k ≤ i → ρ i = m + (i - k) := fun i hi => by rw [← hρ, rn_ge (by rw [hA.len]; exact hi), hA.len]
  have tr1 : ∀ n, n < k → Tr2 s e ρ h0 (eAt e ρ) (fun n => n) n := fun n hn => ⟨fun _ => hsl n hn, rfl, rfl, rfl⟩
  have hW0 : RealW ⟨c.P, w, tch0 k h0 e ρ, fun n => n < k, eAt e ρ, 0, []⟩ h0 (eAt e ρ) w := by
    refine ⟨fun n b h1 h2 => ?_, fun n n' b b' h1 h2 h3 h4 hne ho => ?_, fun n b h1 h2 h3 => ?_, S.cl, fun _ _ => .rfl, rfl, rfl, rfl, Nat.le_refl _, fun _ _ _ => rfl⟩
    · have hn := ltk n (by rw [h1]; simp)
      obtain ⟨b', g1, _, g2⟩ := S.b n hn
      rw [g1] at h2; cases h2
      have := BOk.tr (w2 := w) (tr1 n hn) (fun m hm => tr1 m (g2 m hm)) (fun _ => rfl) (hR.W.blk (ρ n) (Bren ρ b) (hsl n hn) (hsb n b hn g1))
      rwa [Bren_id] at this
    · have hn := ltk n (by rw [h1]; simp)
      have hn' := ltk n' (by rw [h3]; simp)
      exact hR.W.sep (ρ n) (ρ n') _ _ (hsl n hn) (hsb n b hn h2) (hsl n' hn') (hsb n' b' hn' h4) (fun h => hne (inj _ _ h)) (by rw [Bren_own]; exact ho)
    · have hn := ltk n (by rw [h1]; simp)
      by_cases h0' : e.rm (ρ n) = 0
      · exact .inl h0'
      · exact .inr (.inr ⟨n, b, hn, h2, h3, h0', rfl⟩)
  refine ⟨hW0, fun vs us hn hu => ?_, fun e0 w' hW' => ?_⟩
  · have := OkVs.tr (s2 := h0) (e2 := eAt e ρ) (ρ2 := fun n => n) (fun v hv n hn' => tr1 n (hn v hv n hn')) hu
    rw [show vs.map (Vren fun n => n) = vs from by rw [show (Vren fun n => n) = id from funext Vren_id]; simp] at this
    exact this
  · -- back again
    have WC : ∀ x ∈ Wc, (match x.1, x.2 with
      | .l n, .l _ => n < hi ∧ (n < k ∨ (lookW Wc (.b n)).isSome = true)
      | .b n, .b b => n < hi ∧ ((n < k ∨ (b.own = true ∧ (lookW Wc (.l n)).isSome = true)) ∧ ∀ m ∈ b.names, m < hi ∧ (m < k ∨ (lookW Wc (.l m)).isSome = true))
      | _, _ => False) := fun x hx => by
      have := List.all_eq_true.1 hA.wc x hx
      obtain ⟨q, y⟩ := x
      cases q <;> cases y <;> simp [Nat.blt_eq] at this ⊢ <;> first | exact this | skip
    have hlw : ∀ q, lookW (renW ρ Wc) (Kren ρ q) = (lookW Wc q).map (KVren ρ) := fun q => look_renW inj q Wc
    -- names of the end are below hi
    have up : ∀ q, upd h0 Wc q = (lookW Wc q).or (h0 q) := fun _ => rfl
    have hlt : ∀ n, upd h0 Wc (.l n) ≠ none → n < hi := fun n h => by
      rw [up] at h
      cases hl : lookW Wc (.l n) with
      | none => rw [hl] at h; exact Nat.lt_of_lt_of_le (ltk n h) hA.le
      | some x =>
        have := WC _ (look_mem hl)
        cases x <;> simp at this; exact this.1
    have fresh : ∀ i, k ≤ i → i < hi → s (.l (ρ i)) = none := fun i h1 h2 => by rw [ρge i h1]; exact hA.fr _ (by omega) (by omega)
    have freshb : ∀ i, k ≤ i → i < hi → s (.b (ρ i)) = none := fun i h1 h2 => by
      cases hb : s (.b (ρ i)) with
      | none => rfl
      | some x => exact absurd (fresh i h1 h2) (hR.W.cl.2 _ (by rw [hb]; simp))
    have known : ∀ n, s (.l n) ≠ none → ¬ (m ≤ n ∧ n < m + (hi - k)) := fun n h1 h2 => h1 (hA.fr n h2.1 h2.2)
    have R1 : ∀ i, i < hi → upd s (renW ρ Wc) (.l (ρ i)) = upd h0 Wc (.l i) := fun i hi' => by
      have e1 := hlw (.l i)
      simp only [Kren] at e1
      simp only [upd, e1]
      cases hl : lookW Wc (.l i) with
      | some x =>
        have := WC _ (look_mem hl)
        cases x <;> simp at this; rfl
      | none =>
        simp only [Option.map_none, Option.none_or]
        rcases Nat.lt_or_ge i k with h | h
        · rw [hsl i h, (S.l i h).1]
        · rw [fresh i h hi', S.l0 i h]
    have R2 : ∀ i, i < hi → upd s (renW ρ Wc) (.b (ρ i)) = (upd h0 Wc (.b i)).map (KVren ρ) := fun i hi' => by
      have e1 := hlw (.b i)
      simp only [Kren] at e1
      simp only [upd, e1]
      cases hl : lookW Wc (.b i) with
      | some x => rfl
      | none =>
        simp only [Option.map_none, Option.none_or]
        rcases Nat.lt_or_ge i k with h | h
        · obtain ⟨b, g1, _⟩ := S.b i h
          rw [hsb i b h g1, g1]; rfl
        · rw [freshb i h hi', S.b0 i h]; rfl
    have R3 : ∀ n, (∀ i, i < hi → ρ i ≠ n) → upd s (renW ρ Wc) (.l n) = s (.l n) ∧ upd s (renW ρ Wc) (.b n) = s (.b n) := fun n hn => by
      have key : ∀ q, (∀ i, i < hi → Kren ρ q ≠ Kren ρ q ∨ True) → ∀ q', (q' = .l n ∨ q' = .b n) → lookW (renW ρ Wc) q' = none := fun _ _ q' hq' => by
        cases hl : lookW (renW ρ Wc) q' with
        | none => rfl
        | some y =>
          obtain ⟨⟨q0, x⟩, hx, he⟩ := look_renW_img hl
          have := WC _ hx
          cases q0 <;> cases x <;> simp at this <;> rcases hq' with rfl | rfl <;> simp [Kren] at he <;> exact absurd he (hn _ this.1)
      have k1 := key (.l 0) (fun _ _ => .inr trivial) (.l n) (.inl rfl)
      have k2 := key (.l 0) (fun _ _ => .inr trivial) (.b n) (.inr rfl)
      exact ⟨by simp [upd, k1], by simp [upd, k2]⟩
    have E : ∀ i, i < hi → (eMix e e0 k m hi).id (ρ i) = e0.id i ∧ (eMix e e0 k m hi).bs (ρ i) = e0.bs i ∧ (eMix e e0 k m hi).rm (ρ i) = e0.rm i := fun i hi' => by
      rcases Nat.lt_or_ge i k with h | h
      · have hne : ¬ (m ≤ ρ i ∧ ρ i < m + (hi - k)) := fun h1 => by have := ρlt i h; omega
        have g := hW'.given i h
        simp only [eMix, if_neg hne]
        exact ⟨g.id.symm, g.bs.symm, g.rm.symm⟩
      · have e1 := ρge i h
        have hy : m ≤ ρ i ∧ ρ i < m + (hi - k) := by omega
        have e2 : ρ i - m + k = i := by omega
        simp only [eMix, if_pos hy, e2]; exact ⟨trivial, trivial, trivial⟩
    have tr2 : ∀ n, upd h0 Wc (.l n) ≠ none → Tr2 (upd h0 Wc) e0 (fun n => n) (upd s (renW ρ Wc)) (eMix e e0 k m hi) ρ n := fun n hn => by
      have h1 := hlt n hn
      obtain ⟨g1, g2, g3⟩ := E n h1
      exact ⟨fun h => by unfold live at h ⊢; rw [R1 n h1] at h; exact h, g1.symm, g2.symm, g3.symm⟩
    have mono : ∀ n, s (.l n) ≠ none → Mo s e (upd s (renW ρ Wc)) (eMix e e0 k m hi) n := fun n hn => by
      refine ⟨fun hl => ?_, eMix_old (known n hn)⟩
      by_cases hi' : ∃ i, i < hi ∧ ρ i = n
      · obtain ⟨i, h1, rfl⟩ := hi'
        rcases Nat.lt_or_ge i k with h | h
        · exact hsl i h
        · exact absurd (fresh i h h1) hn
      · have := (R3 n (fun i h1 h2 => hi' ⟨i, h1, h2⟩)).1
        unfold live at hl ⊢; rw [this] at hl; exact hl
    have idlt : ∀ n b, s (.l n) = some (.l true) → s (.b n) = some (.b b) → e.rm n ≠ 0 → e.id n < w.heap.size := fun n b h1 h2 h3 => (hR.W.blk n b h1 h2).lt h3
    -- what stood beside stays
    have beside : ∀ n b, s (.l n) = some (.l true) → s (.b n) = some (.b b) → (∀ i, i < hi → ρ i ≠ n) → e.rm n ≠ 0 → w'.heap[e.id n]? = w.heap[e.id n]? := fun n b h1 h2 h3 h4 => by
      refine hW'.old _ (idlt n b h1 h2 h4) ?_
      rintro ⟨i, bi, g1, g2, g3, g4, g5⟩
      rcases hR.W.sep (ρ i) n _ b (hsl i g1) (hsb i bi g1 g2) h1 h2 (h3 i (Nat.lt_of_lt_of_le g1 hA.le)) (by rw [Bren_own]; exact g3) with h | h | h
      · exact g4 h
      · exact h4 h
      · exact h g5.symm
    have getb : ∀ i b, i < hi → upd s (renW ρ Wc) (.b (ρ i)) = some (.b b) → ∃ b0, upd h0 Wc (.b i) = some (.b b0) ∧ b = Bren ρ b0 := fun i b h1 h2 => by
      rw [R2 i h1, Option.map_eq_some_iff] at h2
      obtain ⟨x, hx, he⟩ := h2
      cases x with
      | b b0 => cases he; exact ⟨b0, hx, rfl⟩
      | v _ => cases he
      | l _ => cases he
    -- a new block is its own
    have newown : ∀ i b0, k ≤ i → upd h0 Wc (.b i) = some (.b b0) → b0.own = true := fun i b0 h1 h2 => by
      rw [up] at h2
      cases hl : lookW Wc (.b i) with
      | none => rw [hl, Option.none_or, S.b0 i h1] at h2; cases h2
      | some x =>
        rw [hl] at h2; cases h2
        have := WC _ (look_mem hl)
        simp at this
        rcases this.2.1 with h | h
        · omega
        · exact h.1
    have alk : ∀ i, i < k → upd s (renW ρ Wc) (.l (ρ i)) ≠ none := fun i h => by
      rw [R1 i (Nat.lt_of_lt_of_le h hA.le), up]
      cases lookW Wc (.l i) with
      | some y => simp
      | none => rw [Option.none_or, (S.l i h).1]; simp
    have alm : ∀ n, s (.l n) ≠ none → upd s (renW ρ Wc) (.l n) ≠ none := fun n hn => by
      simp only [upd]
      cases lookW (renW ρ Wc) (.l n) with
      | some y => simp
      | none => simpa using hn
    have hcl' : Cl (upd s (renW ρ Wc)) := by
      have al1 : ∀ i, upd h0 Wc (.l i) ≠ none → upd s (renW ρ Wc) (.l (ρ i)) ≠ none := fun i h => by rw [R1 i (hlt i h)]; exact h
      refine ⟨fun q x hx n hn => ?_, fun n hn => ?_⟩
      · have hx0 := hx
        simp only [upd] at hx
        cases hl : lookW (renW ρ Wc) q with
        | none => rw [hl, Option.none_or] at hx; exact alm n (hR.W.cl.1 q x hx n hn)
        | some y =>
          rw [hl] at hx; cases hx
          obtain ⟨⟨q0, x0⟩, hx1, he⟩ := look_renW_img hl
          have := WC _ hx1
          subst he
          rw [look_renW inj] at hl
          cases q0 with
          | t i => cases x0 <;> simp at this
          | l i =>
            simp only [Option.map_eq_some_iff] at hl
            obtain ⟨y0, hy0, rfl⟩ := hl
            have h3 := WC _ (look_mem hy0)
            cases y0 <;> simp at h3; cases hn
          | b i =>
            simp only [Option.map_eq_some_iff] at hl
            obtain ⟨y0, hy0, rfl⟩ := hl
            have h3 := WC _ (look_mem hy0)
            cases y0 with
            | b b0 =>
              simp only [KVren, KV.names, Bren_names, List.mem_map] at hn
              obtain ⟨j, hj, rfl⟩ := hn
              refine al1 j (hW'.cl.1 (.b i) (.b b0) ?_ j hj)
              rw [up, hy0]; rfl
            | v _ => simp at h3
            | l _ => simp at h3
      · by_cases hi' : ∃ i, i < hi ∧ ρ i = n
        · obtain ⟨i, h1, rfl⟩ := hi'
          refine al1 i (hW'.cl.2 i fun h0' => hn ?_)
          rw [R2 i h1, h0']; rfl
        · have := R3 n (fun i h1 h2 => hi' ⟨i, h1, h2⟩)
          rw [this.2] at hn; rw [this.1]; exact hR.W.cl.2 n hn
    have gid : ∀ n, (∀ i, i < hi → ρ i ≠ n) → (eMix e e0 k m hi).id n = e.id n ∧ (eMix e e0 k m hi).rm n = e.rm n := fun n hn => by
      have : ¬ (m ≤ n ∧ n < m + (hi - k)) := fun h => hn (n - m + k) (by omega) (by rw [ρge _ (by omega)]; omega)
      exact ⟨if_neg this, if_neg this⟩
    have hWr : RealW c (upd s (renW ρ Wc)) (eMix e e0 k m hi) w' := by
      refine ⟨fun n b h1 h2 => ?_, fun n n' b b' h1 h2 h3 h4 hne ho => ?_, fun n b h1 h2 h3 => ?_, hcl', fun n hn => ?_, hW'.os.trans hR.W.os, hW'.tape.trans hR.W.tape, hW'.output.trans hR.W.output, Nat.le_trans hR.W.size hW'.size, fun x hx ht => ?_⟩
      · by_cases hi' : ∃ i, i < hi ∧ ρ i = n
        · obtain ⟨i, g1, rfl⟩ := hi'
          obtain ⟨b0, g2, rfl⟩ := getb i b g1 h2
          have g3 : upd h0 Wc (.l i) = some (.l true) := by rw [← R1 i g1]; exact h1
          refine BOk.tr (ρ1 := fun n => n) (s1 := upd h0 Wc) (e1 := e0) (w1 := w') (tr2 i (by rw [g3]; simp)) (fun j hj => tr2 j (hW'.cl.1 (.b i) (.b b0) g2 j hj)) (fun _ => rfl) ?_
          rw [Bren_id]; exact hW'.blk i b0 g3 g2
        · have hn := fun i h1 h2 => hi' ⟨i, h1, h2⟩
          obtain ⟨g1, g2⟩ := R3 n hn
          rw [g1] at h1; rw [g2] at h2
          exact (hR.W.blk n b h1 h2).mono (fun j hj => mono j (hR.W.cl.1 (.b n) (.b b) h2 j hj)) (mono n (by rw [h1]; simp)).2 (fun h => beside n b h1 h2 hn h)
      · by_cases hi' : ∃ i, i < hi ∧ ρ i = n <;> by_cases hj' : ∃ i, i < hi ∧ ρ i = n'
        · obtain ⟨i, g1, rfl⟩ := hi'
          obtain ⟨j, g2, rfl⟩ := hj'
          obtain ⟨b0, g3, rfl⟩ := getb i b g1 h2
          obtain ⟨b1, g4, rfl⟩ := getb j b' g2 h4
          rw [Bren_own] at ho
          have := hW'.sep i j b0 b1 (by rw [← R1 i g1]; exact h1) g3 (by rw [← R1 j g2]; exact h3) g4 (fun h => hne (by rw [h])) ho
          rw [(E i g1).1, (E i g1).2.2, (E j g2).1, (E j g2).2.2]; exact this
        · obtain ⟨i, g1, rfl⟩ := hi'
          have hn := fun i h1 h2 => hj' ⟨i, h1, h2⟩
          obtain ⟨b0, g3, rfl⟩ := getb i b g1 h2
          obtain ⟨q1, q2⟩ := R3 n' hn
          rw [q1] at h3; rw [q2] at h4
          rw [Bren_own] at ho
          rw [(E i g1).1, (E i g1).2.2, (gid n' hn).1, (gid n' hn).2]
          have g4 : upd h0 Wc (.l i) = some (.l true) := by rw [← R1 i g1]; exact h1
          rcases hW'.own i b0 g4 g3 ho with h | h | ⟨j, bj, p1, p2, p3, p4, p5⟩
          · exact .inl h
          · by_cases hr : e.rm n' = 0
            · exact .inr (.inl hr)
            · refine .inr (.inr fun h5 => ?_)
              have := idlt n' b' h3 h4 hr
              have hB : w.heap.size ≤ e0.id i := h
              omega
          · rcases hR.W.sep (ρ j) n' _ b' (hsl j p1) (hsb j bj p1 p2) h3 h4 (hn j (Nat.lt_of_lt_of_le p1 hA.le)) (by rw [Bren_own]; exact p3) with h | h | h
            · exact absurd h p4
            · exact .inr (.inl h)
            · exact .inr (.inr (by rw [p5]; exact h))
        · obtain ⟨j, g1, rfl⟩ := hj'
          have hn := fun i h1 h2 => hi' ⟨i, h1, h2⟩
          obtain ⟨b1, g3, rfl⟩ := getb j b' g1 h4
          obtain ⟨q1, q2⟩ := R3 n hn
          rw [q1] at h1; rw [q2] at h2
          rw [(E j g1).1, (E j g1).2.2, (gid n hn).1, (gid n hn).2]
          have g4 : upd h0 Wc (.l j) = some (.l true) := by rw [← R1 j g1]; exact h3
          rcases Nat.lt_or_ge j k with hj | hj
          · obtain ⟨bb, p1, _⟩ := S.b j hj
            have g := hW'.given j hj
            rcases hR.W.sep n (ρ j) b _ h1 h2 (hsl j hj) (hsb j bb hj p1) hne ho with h | h | h
            · exact .inl h
            · exact .inr (.inl (g.rm.trans h))
            · exact .inr (.inr (by rw [show e0.id j = e.id (ρ j) from g.id]; exact h))
          · rcases hW'.own j b1 g4 g3 (newown j b1 hj g3) with h | h | ⟨i, bi, p1, p2, p3, p4, p5⟩
            · exact .inr (.inl h)
            · by_cases hr : e.rm n = 0
              · exact .inl hr
              · refine .inr (.inr fun h5 => ?_)
                have := idlt n b h1 h2 hr
                have hB : w.heap.size ≤ e0.id j := h
                omega
            · rcases hR.W.sep (ρ i) n _ b (hsl i p1) (hsb i bi p1 p2) h1 h2 (hn i (Nat.lt_of_lt_of_le p1 hA.le)) (by rw [Bren_own]; exact p3) with h | h | h
              · exact absurd h p4
              · exact .inl h
              · exact .inr (.inr (by rw [p5]; exact fun h' => h h'.symm))
        · have hn := fun i h1 h2 => hi' ⟨i, h1, h2⟩
          have hn' := fun i h1 h2 => hj' ⟨i, h1, h2⟩
          obtain ⟨q1, q2⟩ := R3 n hn
          obtain ⟨q3, q4⟩ := R3 n' hn'
          rw [q1] at h1; rw [q2] at h2; rw [q3] at h3; rw [q4] at h4
          rw [(gid n hn).1, (gid n hn).2, (gid n' hn').1, (gid n' hn').2]
          exact hR.W.sep n n' b b' h1 h2 h3 h4 hne ho
      · by_cases hi' : ∃ i, i < hi ∧ ρ i = n
        · obtain ⟨i, g1, rfl⟩ := hi'
          obtain ⟨b0, g3, rfl⟩ := getb i b g1 h2
          rw [Bren_own] at h3
          rw [(E i g1).1, (E i g1).2.2]
          rcases hW'.own i b0 (by rw [← R1 i g1]; exact h1) g3 h3 with h | h | ⟨j, bj, p1, p2, p3, p4, p5⟩
          · exact .inl h
          · exact .inr (.inl (Nat.le_trans hR.W.size h))
          · rw [p5]
            rcases hR.W.own (ρ j) _ (hsl j p1) (hsb j bj p1 p2) (by rw [Bren_own]; exact p3) with h | h
            · exact absurd h p4
            · exact .inr h
        · have hn := fun i h1 h2 => hi' ⟨i, h1, h2⟩
          obtain ⟨q1, q2⟩ := R3 n hn
          rw [q1] at h1; rw [q2] at h2
          rw [(gid n hn).1, (gid n hn).2]
          exact hR.W.own n b h1 h2 h3
      · have hgv := hA.gv n
        have : ¬ (m ≤ n ∧ n < m + (hi - k)) := fun h => hgv h.1 h.2 hn
        exact (eMix_old this).symm.trans (hR.W.given n hn)
      · have h1 : x < w.heap.size := Nat.lt_of_lt_of_le hx hR.W.size
        rw [hW'.old x h1 ?_]
        · exact hR.W.old x hx ht
        · rintro ⟨j, bj, p1, p2, p3, p4, p5⟩
          rcases hR.W.own (ρ j) _ (hsl j p1) (hsb j bj p1 p2) (by rw [Bren_own]; exact p3) with h | h | h
          · exact p4 h
          · have : c.B ≤ x := by rw [p5]; exact h
            have h5 : x < c.B := hx
            omega
          · exact ht (by rw [p5]; exact h)
    have hfm : ∀ n ∈ c.fm, ∀ i, i < hi → ρ i ≠ n := fun n hn i hi' he => by
      rcases Nat.lt_or_ge i k with h | h
      · refine hA.fm n hn ?_
        rw [← he, ← hρ, rn_lt (by rw [hA.len]; exact h)]; exact List.getElem_mem _
      · have := fresh i h hi'
        rw [he, (hR.fml n hn).1] at this; cases this
    refine ⟨hR.withW hWr (fun i => ?_) mono (fun n hn => R3 n (hfm n hn)), fun v u hu hn => ⟨?_, fun n hn' => ?_⟩⟩
    · have : lookW (renW ρ Wc) (.t i) = none := by
        cases hl : lookW (renW ρ Wc) (.t i) with
        | none => rfl
        | some y =>
          obtain ⟨⟨q0, x⟩, hx, he⟩ := look_renW_img hl
          have := WC _ hx
          cases q0 <;> cases x <;> simp at this <;> simp [Kren] at he
      simp [upd, this]
    · have := OkV.tr (ρ1 := fun n => n) (fun n hn' => tr2 n (hn n hn')) (by rw [Vren_id]; exact hu)
      exact this
    · rw [Vren_names, List.mem_map] at hn'
      obtain ⟨j, hj, rfl⟩ := hn'
      rw [R1 j (hlt j (hn j hj))]; exact hn j hj
theorem atW.nil {σ : Sf} {ρ : Nat → Nat} : atW σ ρ [] := trivial
theorem atW.lt {σ : Sf} {ρ : Nat → Nat} {n : Nat} {r : Ws} (h : σ (.l (ρ n)) = some (.l true)) (hr : atW σ ρ r) : atW σ ρ ((.l n, .l true) :: r) := ⟨h, hr⟩
theorem atW.b {σ : Sf} {ρ : Nat → Nat} {n : Nat} {b : B} {r : Ws} (h : σ (.b (ρ n)) = some (.b (Bren ρ b))) (hr : atW σ ρ r) : atW σ ρ ((.b n, .b b) :: r) := ⟨h, hr⟩
/-- The keys that are read. -/
def atK (ns : List Nat) : List Key := ns.flatMap fun n => [.l n, .b n]
def freeB (σ : Sf) (m : Nat) : Nat → Bool
  | 0 => true
  | j + 1 => (σ (.l (m + j))).isNone && freeB σ m j
def freeK (m : Nat) : Nat → List Key
  | 0 => []
  | j + 1 => .l (m + j) :: freeK m j
theorem freeB_ok {σ : Sf} : ∀ {j : Nat}, freeB σ m j = true → ∀ n, m ≤ n → n < m + j → σ (.l n) = none ∧ Key.l n ∈ freeK m j
  | 0, _, n, h1, h2 => by omega
  | j + 1, h, n, h1, h2 => by
    simp only [freeB, Bool.and_eq_true] at h
    by_cases e : n = m + j
    · subst e; exact ⟨Option.isNone_iff_eq_none.1 h.1, by simp [freeK]⟩
    · obtain ⟨g1, g2⟩ := freeB_ok h.2 n h1 (by omega)
      exact ⟨g1, by simp [freeK, g2]⟩
def argsLt (k : Nat) (vs : List V) : Bool := vs.all fun v => v.names.all fun n => Nat.blt n k
theorem atW_mono {σ s : Sf} {ρ : Nat → Nat} : ∀ {W : Ws}, (∀ x ∈ W, s (Kren ρ x.1) = σ (Kren ρ x.1)) → atW σ ρ W → atW s ρ W
  | [], _, _ => trivial
  | (.l n, .l true) :: r, h, hw => ⟨by rw [show s (.l (ρ n)) = σ (.l (ρ n)) from h (.l n, .l true) List.mem_cons_self]; exact hw.1, atW_mono (fun x hx => h x (List.mem_cons_of_mem _ hx)) hw.2⟩
  | (.b n, .b b) :: r, h, hw => ⟨by rw [show s (.b (ρ n)) = σ (.b (ρ n)) from h (.b n, .b b) List.mem_cons_self]; exact hw.1, atW_mono (fun x hx => h x (List.mem_cons_of_mem _ hx)) hw.2⟩
  | (.l k, .l false) :: r, _, h => h.elim
  | (.l k, .v _) :: r, _, h => h.elim
  | (.l k, .b _) :: r, _, h => h.elim
  | (.b k, .v _) :: r, _, h => h.elim
  | (.b k, .l _) :: r, _, h => h.elim
  | (.t k, _) :: r, _, h => h.elim
variable {σ : Sf}
theorem w0_keys (hw : w0Ok ns.length W0 = true) : ∀ x ∈ W0, Kren (rn ns m) x.1 ∈ atK ns := fun x hx => by
  simp only [w0Ok, Bool.and_eq_true, List.all_eq_true] at hw
  have := hw.1 x hx
  obtain ⟨q, y⟩ := x
  have key : ∀ i, i < ns.length → rn ns m i ∈ ns := fun i hi => by rw [rn_lt hi]; exact List.getElem_mem _
  cases q with
  | t i => simp at this
  | l n =>
    cases y with
    | l a => cases a <;> simp [Nat.blt_eq] at this; exact List.mem_flatMap.2 ⟨_, key n this, by simp [Kren]⟩
    | _ => simp at this
  | b n =>
    cases y with
    | b b => simp [Nat.blt_eq] at this; exact List.mem_flatMap.2 ⟨_, key n this.1, by simp [Kren]⟩
    | _ => simp at this
theorem LocalO.callAt (hF : WideLike F) {f : FuncId} {ca : List (Nat × Nat)} {x : Operand} {xs : List Operand} {tys : Array TypeId} {args vs : List V} {ks : List Key} {v : V} {d : Option Tmp} {rt : TypeId} {pos : String} {af : Array Edge} {g : Option (Nat × Bool)}
    (he : ∀ args w, (callFunc f args).run c.P w = .ok (.enter f args) w) (hct : CT c.P f args (upd emp W0) ns.length hi v (upd (upd emp W0) Wc)) (hx : opv σ x = some (.c (.f f ca))) (hv : Vals σ xs vs ks) (ha : Is (args.map (Vren (rn ns m))) (vs ++ capV ca)) (hN : dOk c.N d = true)
    (hle : Nat.ble ns.length hi = true) (hw0 : w0Ok ns.length W0 = true) (hwc : wcOk ns.length hi Wc = true) (hnd : rnOk m ns = true) (hat : atW σ (rn ns m) W0) (hfr : freeB σ m (hi - ns.length) = true) (hgv : ∀ n, m ≤ n → n < m + (hi - ns.length) → ¬ c.gv n) (hal : argsLt ns.length args = true) (hca : ca.all (fun q => inL ns q.1) = true)
    (hfm : c.fm.all (fun n => !inL ns n) = true) :
    LocalO c F nn ⟨d, .call ⟨.value x, xs.toArray, tys⟩, rt, pos, af, g⟩ σ ⟨kr (opk x ++ (ks ++ (atK ns ++ freeK m (hi - ns.length)))), putW d (Vren (rn ns m) v) ++ renW (rn ns m) Wc⟩ := by
  intro hcl Q s e a w K hag hR hK
  have hk : ∀ q ∈ opk x ++ (ks ++ (atK ns ++ freeK m (hi - ns.length))), s q = σ q := fun q hq => hag q (kr_iff.2 hq)
  have hA : AtOk c s ns.length hi m W0 Wc ns := ⟨rfl, Nat.le_of_ble_eq_true hle, hw0, hwc, hnd, atW_mono (fun x hx => hk _ (by simp [w0_keys (m := m) hw0 x hx])) hat, fun n h1 h2 => by
      obtain ⟨g1, g2⟩ := freeB_ok hfr n h1 h2
      rw [hk (.l n) (by simp [g2])]; exact g1, hgv, fun n hn hn' => by
      have := List.all_eq_true.1 hfm n hn
      simp [inL_iff.2 hn'] at this⟩
  obtain ⟨hW0, hargs, hback⟩ := Real.at hR hA
  have hx' : opv s x = some (.c (.f f ca)) := by rw [opv_agree fun q hq => hk q (by simp [hq])]; exact hx
  have hca' : ∀ q ∈ ca, s (.l q.1) = some (.l true) := fun q hq => by
    have := inL_iff.1 (List.all_eq_true.1 hca q hq)
    obtain ⟨i, hi', he'⟩ := List.getElem_of_mem this
    have S := w0_spec hw0
    obtain ⟨_, y, hy⟩ := S.l i hi'
    have := atW_l hA.at_ hy
    rw [rn_lt hi', he'] at this; exact this
  have ex := eval_f hx' hca' hR
  have hvs := Vals.evals hv (fun q hq => hk q (by simp [hq])) hR
  refine ⟨fun f _ => hF.fn f, ?_⟩
  rw [Oper.semAt_eq _ _ _ (noDefer rfl)]
  simp only [execOp, resolve, ex, invoke, Deferred.ofValue, List.map_toArray, Sem.run_bind, Sem.run_pure, Result.andThen_ok]
  simp only [List.append_toArray, List.nil_append, he, Oper.uponIn]
  have hin : OkVs (upd emp W0) (eAt e (rn ns m)) args (xs.map a.eval ++ capU e ca) := hargs args _ (fun v hv n hn => by
    have := List.all_eq_true.1 (List.all_eq_true.1 hal v hv) n hn
    simpa [Nat.blt_eq] using this) (by rw [ha.eq]; exact OkVs.append hvs (caps_ok ca))
  have hnm : ∀ v ∈ args, ∀ n ∈ v.names, upd emp W0 (.l n) ≠ none := fun v hv n hn => by
    have := List.all_eq_true.1 (List.all_eq_true.1 hal v hv) n hn
    rw [((w0_spec hw0).l n (by simpa [Nat.blt_eq] using this)).1]; simp
  refine ⟨fun h => absurd h (by rw [hF.depth]; simp), hF.calls ((hct ⟨c.P, w, tch0 ns.length (upd emp W0) e (rn ns m), fun n => n < ns.length, eAt e (rn ns m), 0, []⟩ (eAt e (rn ns m)) w _ rfl (fun n h1 h2 h3 => absurd h3 (Nat.not_lt.2 h1)) hW0 hin hnm).mono ?_)⟩
  rintro en w' ⟨u, e', rfl, hW', hu, hun⟩
  obtain ⟨r1, r2⟩ := hback e' w' hW'
  obtain ⟨r3, r4⟩ := r2 v u hu hun
  have h5 := r1.putW (dst := d) hN r3 r4
  rw [← upd_append] at h5
  exact hK _ _ _ h5
end
section
variable {c : Ctx} {F : Fence} {nn : Nat} {id : Nat} {ops : Array Oper} {draw : Bool} {Q : Exit → Act → World → Prop} {σ0 σ s : Sf} {e : Env} {a : Act} {w : World} {i : Nat} {rest : List Oper} {tr : List Tr} {sup : List Nat}
/-- A call by a contract over few blocks: ns are its blocks here, from m on the new ones are named. -/
theorem eCallN {d : Tmp} {hi m : Nat} {W0 Wc ws : Ws} {f : FuncId} {ca : List (Nat × Nat)} {x : Operand} {xs : List Operand} {tys : Array TypeId} {args vs : List V} {ks : List Key} {v v' : V} {rt : TypeId} {pos : String} {af : Array Edge} {g : Option (Nat × Bool)} {gk : List Key} (ns : List Nat) [hF : WideLike F]
    (he : ∀ args w, (callFunc f args).run c.P w = .ok (.enter f args) w) (hct : CT c.P f args (upd emp W0) ns.length hi v (upd (upd emp W0) Wc))
    (hr : RX c F nn id ops draw Q σ0 (i + 1) rest (upd σ ((.t d, .v v') :: ws)) (⟨orR gk (kr (opk x ++ (ks ++ (atK ns ++ freeK m (hi - ns.length))))), (.t d, .v v') :: ws⟩ :: tr) sup)
    (hG : autoParam (GOk ops σ g gk) aGOK._auto_1) (hx : opv σ x = some (.c (.f f ca)) := by rfl) (hv : autoParam (Vals σ xs vs ks) aVALS._auto_1) (ha : Is (args.map (Vren (rn ns m))) (vs ++ capV ca) := by (exact Is.mk rfl)) (hN : dOk c.N (some d) = true := by rfl)
    (hle : Nat.ble ns.length hi = true := by rfl) (hw0 : w0Ok ns.length W0 = true := by rfl) (hwc : wcOk ns.length hi Wc = true := by rfl) (hnd : rnOk m ns = true := by rfl) (hat : autoParam (atW σ (rn ns m) W0) aATW._auto_1) (hfr : freeB σ m (hi - ns.length) = true := by rfl) (hgv : autoParam (∀ n, m ≤ n → n < m + (hi - ns.length) → ¬ c.gv n) aGVR._auto_1) (hal : argsLt ns.length args = true := by rfl) (hca : ca.all (fun q => inL ns q.1) = true := by rfl)
    (hfm : c.fm.all (fun n => !inL ns n) = true := by rfl) (hv' : autoParam (Is (Vren (rn ns m) v) v') aREN._auto_1) (hws : autoParam (Is (renW (rn ns m) Wc) ws) aREN._auto_1) :
    RX c F nn id ops draw Q σ0 i (⟨some d, .call ⟨.value x, xs.toArray, tys⟩, rt, pos, af, g⟩ :: rest) σ tr (m :: sup) := by
  obtain ⟨rfl⟩ := hv'; obtain ⟨rfl⟩ := hws
  exact RX_o (t := ⟨kr (opk x ++ (ks ++ (atK ns ++ freeK m (hi - ns.length)))), (.t d, .v (Vren (rn ns m) v)) :: renW (rn ns m) Wc⟩) hr hG (LocalO.callAt hF he hct hx hv ha hN hle hw0 hwc hnd hat hfr hgv hal hca hfm)
/-- Other places for names that nobody uses. -/
theorem RealW.reenv {e' : Env} {h : Sf} (hW : RealW c h e w) (hs : ∀ n, h (.l n) ≠ none → e.same e' n) (hg : ∀ n, c.gv n → e'.same c.ini n) : RealW c h e' w := by
  have al : ∀ n b, h (.l n) = some (.l true) → h (.b n) = some (.b b) → e.same e' n := fun n b h1 _ => hs n (by rw [h1]; simp)
  refine ⟨fun n b h1 h2 => (hW.blk n b h1 h2).mono (fun m hm => ⟨id, hs m (hW.cl.1 (.b n) (.b b) h2 m hm)⟩) (al n b h1 h2) (fun _ => rfl), fun n n' b b' h1 h2 h3 h4 hne ho => ?_, fun n b h1 h2 h3 => ?_, hW.cl, hg, hW.os, hW.tape, hW.output, hW.size, hW.old⟩
  · obtain ⟨a1, _, a3⟩ := al n b h1 h2
    obtain ⟨c1, _, c3⟩ := al n' b' h3 h4
    rw [← a1, ← a3, ← c1, ← c3]; exact hW.sep n n' b b' h1 h2 h3 h4 hne ho
  · obtain ⟨a1, _, a3⟩ := al n b h1 h2
    rw [← a1, ← a3]; exact hW.own n b h1 h2 h3
theorem OkV.reenv {e' : Env} {h : Sf} {v : V} {u : Value} (hs : ∀ n ∈ v.names, e.same e' n) (hu : OkV h e v u) : OkV h e' v u := OkV.mono (fun m hm => ⟨id, hs m hm⟩) hu
/-- A contract out of the body. -/
theorem ctEnter {P : Program} {f : FuncId} {fn : Func} {code : Code} {args : List V} {W0 ws : Ws} {h' : Sf} {k hi : Nat} {v : V} {N : Nat} (sup : List Nat) (hf : P.funcs[f]? = some fn) (hb : fn.body = some code) (hN : fn.ntmps = N) (hw0 : w0Ok k W0 = true) (hh : NL hi h')
    (hC : ∀ (w0 : World) (tch : Nat → Prop) (ini : Env) (R : Ending → World → Prop), (∀ e u w, RealW ⟨P, w0, tch, GV k 1000000, ini, N, []⟩ h' e w → OkV h' e v u → (∀ n ∈ v.names, h' (.l n) ≠ none) → R (.returned u) w) →
      CX ⟨P, w0, tch, GV k 1000000, ini, N, []⟩ Fence.wide 0 code (bodyPostM Fence.wide 0 P fn R) (upd (upd emp W0) ws) sup)
    (hle : Nat.ble args.length N = true := by rfl) (hws : autoParam (Is (argW 0 args) ws) aNRM._auto_1) : CT P f args (upd emp W0) k hi v h' := by
  obtain ⟨rfl⟩ := hws
  subst hN
  have S := w0_spec hw0
  intro c e w us hP hm hW hu hn
  have hW2 : RealW ⟨P, c.w0, c.tch, GV k 1000000, e, fn.ntmps, []⟩ (upd emp W0) e w := ⟨hW.blk, hW.sep, hW.own, hW.cl, fun _ _ => .rfl, hW.os, hW.tape, hW.output, hW.size, hW.old⟩
  have hend : ∀ e' u w', RealW ⟨P, c.w0, c.tch, GV k 1000000, e, fn.ntmps, []⟩ h' e' w' → OkV h' e' v u → (∀ n ∈ v.names, h' (.l n) ≠ none) → ∃ u0 e0, Ending.returned u = .returned u0 ∧ RealW c h' e0 w' ∧ OkV h' e0 v u0 ∧ ∀ n ∈ v.names, h' (.l n) ≠ none := fun e' u w' h hu' hn' => by
    let e0 : Env := ⟨fun n => if n < hi then e'.id n else e.id n, fun n => if n < hi then e'.bs n else e.bs n, fun n => if n < hi then e'.rm n else e.rm n⟩
    have lt : ∀ n, h' (.l n) ≠ none → n < hi := fun n hn => by
      rcases Nat.lt_or_ge n hi with h | h
      · exact h
      · exact absurd (hh.no n h) hn
    have sm : ∀ n, n < hi → e'.same e0 n := fun n hn => ⟨(if_pos hn).symm, (if_pos hn).symm, (if_pos hn).symm⟩
    have hc : RealW c h' e0 w' := by
      have h1 : RealW ⟨c.P, c.w0, c.tch, fun n => c.gv n ∧ False, c.ini, c.N, c.fm⟩ h' e' w' := ⟨h.blk, h.sep, h.own, h.cl, fun _ hx => hx.2.elim, h.os, h.tape, h.output, h.size, h.old⟩
      have h2 := RealW.reenv h1 (e' := e0) (fun n hn => sm n (lt n hn)) (fun _ hx => hx.2.elim)
      refine ⟨h2.blk, h2.sep, h2.own, h2.cl, fun n hn => ?_, h2.os, h2.tape, h2.output, h2.size, h2.old⟩
      rcases Nat.lt_or_ge n hi with h3 | h3
      · have h4 : n < k := by
          rcases Nat.lt_or_ge n k with h4 | h4
          · exact h4
          · exact absurd hn (hm n h4 h3)
        exact (sm n h3).symm.trans ((h.given n (.inl h4)).trans (hW.given n hn))
      · have h5 : e0.same e n := ⟨if_neg (by omega), if_neg (by omega), if_neg (by omega)⟩
        exact h5.trans (hW.given n hn)
    exact ⟨u, e0, rfl, hc, OkV.reenv (fun n hn => sm n (lt n (hn' n hn))) hu', hn'⟩
  refine (callsIn_wide (n := 0)).1 (callsIn_of_wp_marks hf hb trivial ?_)
  have hlen := hu.length
  have hle' := Nat.le_of_ble_eq_true hle
  refine (hC c.w0 c.tch e (fun en w' => ∃ u e', en = .returned u ∧ RealW c h' e' w' ∧ OkV h' e' v u ∧ ∀ n ∈ v.names, h' (.l n) ≠ none) hend).go.go e _ w ⟨?_, rfl, (fun n hn => by cases hn), (by simp; omega), fun i x hx => ?_⟩
  · refine hW2.slots (fun n => ?_) (fun n => ?_) ⟨fun q x hx n hn' => ?_, fun n hx => ?_⟩
    · simp [upd, lookW_arg]
    · simp [upd, lookW_arg]
    · have e1 : ∀ n, upd (upd emp W0) (argW 0 args) (.l n) = upd emp W0 (.l n) := fun n => by simp [upd, lookW_arg]
      rw [e1]
      cases q with
      | t i =>
        have e2 : upd (upd emp W0) (argW 0 args) (.t i) = (args[i]?).map KV.v := by
          have := S.t0 i
          simp only [upd] at this
          simp [upd, lookW_arg, this]
        rw [e2, Option.map_eq_some_iff] at hx
        obtain ⟨y, hy, rfl⟩ := hx
        exact hn y (List.mem_of_getElem? hy) n hn'
      | b j => exact hW.cl.1 (.b j) x (by simpa [upd, lookW_arg] using hx) n hn'
      | l j => exact hW.cl.1 (.l j) x (by simpa [upd, lookW_arg] using hx) n hn'
    · have := hW.cl.2 n (by simpa [upd, lookW_arg] using hx)
      simpa [upd, lookW_arg] using this
  · have e2 : upd (upd emp W0) (argW 0 args) (.t i) = (args[i]?).map KV.v := by
      have := S.t0 i
      simp only [upd] at this
      simp [upd, lookW_arg, this]
    rw [e2, Option.map_eq_some_iff] at hx
    obtain ⟨y, hy, he⟩ := hx
    cases he
    obtain ⟨u, h1, h2⟩ := hu.get hy
    have hlt : i < us.length := (List.getElem?_eq_some_iff.1 h1).1
    refine ⟨u, ?_, OkV.mono (s := upd emp W0) (fun m _ => ⟨fun hl => ?_, .rfl⟩) h2⟩
    · rw [Array.getElem?_append_left (by simpa using hlt)]
      simpa using h1
    · unfold live at *; simpa [upd, lookW_arg] using hl
/-- The names that a contract's end speaks of: those it was given, and those of the list. -/
def rl (k : Nat) (l : List Nat) (n : Nat) : Nat := if n < k then n else match l[n - k]? with
  | some x => x
  | none => n
/-- Two ways to say what a block holds. -/
def SameB (a b : B) : Prop := a = b ∨ ∃ o l, a.cellsC = some (o, l) ∧ b.cellsC = some (o, l)
theorem SameB.refl {a : B} : SameB a a := .inl rfl
theorem SameB.m {o : Bool} {l l' : List C} (h : l = l') : SameB (.m o l) (.m o l') := .inl (by rw [h])
/-- What stands at the end. -/
def atE (σ : Sf) (ρ : Nat → Nat) : Ws → Prop
  | [] => True
  | (.l n, .l true) :: r => σ (.l (ρ n)) = some (.l true) ∧ atE σ ρ r
  | (.l _, .l false) :: r => atE σ ρ r
  | (.b n, .b b) :: r => (∃ b', σ (.b (ρ n)) = some (.b b') ∧ SameB b' (Bren ρ b)) ∧ atE σ ρ r
  | _ :: _ => False
theorem atE.nil {ρ : Nat → Nat} : atE σ ρ [] := trivial
theorem atE.lt {ρ : Nat → Nat} {n : Nat} {r : Ws} (h : σ (.l (ρ n)) = some (.l true)) (hr : atE σ ρ r) : atE σ ρ ((.l n, .l true) :: r) := ⟨h, hr⟩
theorem atE.b {ρ : Nat → Nat} {n : Nat} {b b' : B} {r : Ws} (h : σ (.b (ρ n)) = some (.b b')) (hs : SameB b' (Bren ρ b)) (hr : atE σ ρ r) : atE σ ρ ((.b n, .b b) :: r) := ⟨⟨b', h, hs⟩, hr⟩
theorem atE_l {ρ : Nat → Nat} {n : Nat} : ∀ {W : Ws}, atE σ ρ W → (Key.l n, KV.l true) ∈ W → σ (.l (ρ n)) = some (.l true)
  | (.l k, .l true) :: r, h, hm => by
    rcases List.mem_cons.1 hm with e | hm
    · cases e; exact h.1
    · exact atE_l h.2 hm
  | (.l k, .l false) :: r, h, hm => by
    rcases List.mem_cons.1 hm with e | hm
    · cases e
    · exact atE_l (W := r) h hm
  | (.b k, .b b) :: r, h, hm => by
    rcases List.mem_cons.1 hm with e | hm
    · cases e
    · exact atE_l h.2 hm
  | (.l k, .v _) :: r, h, _ => h.elim
  | (.l k, .b _) :: r, h, _ => h.elim
  | (.b k, .v _) :: r, h, _ => h.elim
  | (.b k, .l _) :: r, h, _ => h.elim
  | (.t k, _) :: r, h, _ => h.elim
theorem atE_b {ρ : Nat → Nat} {n : Nat} {b : B} : ∀ {W : Ws}, atE σ ρ W → (Key.b n, KV.b b) ∈ W → ∃ b', σ (.b (ρ n)) = some (.b b') ∧ SameB b' (Bren ρ b)
  | (.l k, .l true) :: r, h, hm => by
    rcases List.mem_cons.1 hm with e | hm
    · cases e
    · exact atE_b h.2 hm
  | (.l k, .l false) :: r, h, hm => by
    rcases List.mem_cons.1 hm with e | hm
    · cases e
    · exact atE_b (W := r) h hm
  | (.b k, .b b) :: r, h, hm => by
    rcases List.mem_cons.1 hm with e | hm
    · cases e; exact h.1
    · exact atE_b h.2 hm
  | (.l k, .v _) :: r, h, _ => h.elim
  | (.l k, .b _) :: r, h, _ => h.elim
  | (.b k, .v _) :: r, h, _ => h.elim
  | (.b k, .l _) :: r, h, _ => h.elim
  | (.t k, _) :: r, h, _ => h.elim
theorem BOk.sameB {n : Nat} {b b' : B} (h : SameB b' b) (k : BOk s e w n b') : BOk s e w n b := by
  rcases h with rfl | ⟨o, l, h1, h2⟩
  · exact k
  · exact cellsC_ok h2 (by cases b' <;> simp [B.cellsC] at h1 <;> obtain ⟨rfl, rfl⟩ := h1 <;> exact k)
theorem SameB.own {b b' : B} (h : SameB b' b) : b'.own = b.own := by
  rcases h with rfl | ⟨o, l, h1, h2⟩
  · rfl
  · rw [(cellsC_own h1).1, (cellsC_own h2).1]
def endW (W0 Wc : Ws) : Ws := Wc ++ W0.filter fun x => (lookW Wc x.1).isNone
theorem look_end {W0 Wc : Ws} {q : Key} {x : KV} (h : upd (upd emp W0) Wc q = some x) : (q, x) ∈ endW W0 Wc := by
  simp only [upd, emp, Option.or_none] at h
  cases hl : lookW Wc q with
  | some y => rw [hl] at h; cases h; exact List.mem_append.2 (.inl (look_mem hl))
  | none => rw [hl, Option.none_or] at h; exact List.mem_append.2 (.inr (List.mem_filter.2 ⟨look_mem h, by simp [hl]⟩))
def rlOk (k : Nat) : List Nat → Bool
  | [] => true
  | n :: l => Nat.ble k n && (Nat.blt n 1000000 && (!inL l n && rlOk k l))
theorem rlOk_spec {k : Nat} : ∀ {l : List Nat}, rlOk k l = true → l.Nodup ∧ ∀ n ∈ l, k ≤ n ∧ n < 1000000
  | [], _ => ⟨List.nodup_nil, fun n h => by cases h⟩
  | n :: l, h => by
    simp only [rlOk, Bool.and_eq_true, Bool.not_eq_true'] at h
    obtain ⟨h1, h2⟩ := rlOk_spec h.2.2.2
    refine ⟨List.nodup_cons.2 ⟨fun hn => ?_, h1⟩, fun j hj => ?_⟩
    · rw [inL_iff.2 hn] at h; exact absurd h.2.2.1 (by simp)
    · rcases List.mem_cons.1 hj with rfl | hj
      · exact ⟨Nat.le_of_ble_eq_true h.1, by simpa [Nat.blt_eq] using h.2.1⟩
      · exact h2 j hj
theorem RealW.pull {P : Program} {w0 : World} {tch : Nat → Prop} {ini : Env} {N k : Nat} {fm : List Nat} {W0 Wc : Ws} {l : List Nat} (hW : RealW ⟨P, w0, tch, GV k 1000000, ini, N, fm⟩ σ e w) (hl : rlOk k l = true) (hb : Nat.ble (k + l.length) 1000000 = true) (hn : NL (k + l.length) (upd (upd emp W0) Wc)) (hat : atE σ (rl k l) (endW W0 Wc)) (hcl : clB emp (endW W0 Wc) = true) :
    RealW ⟨P, w0, tch, GV k 1000000, ini, N, fm⟩ (upd (upd emp W0) Wc) (eAt e (rl k l)) w ∧ ∀ v u, OkV σ e (Vren (rl k l) v) u → (∀ n ∈ v.names, n < k + l.length ∧ upd (upd emp W0) Wc (.l n) = some (.l true)) → OkV (upd (upd emp W0) Wc) (eAt e (rl k l)) v u := by
  obtain ⟨hl1, hl2⟩ := rlOk_spec hl
  generalize hh : upd (upd emp W0) Wc = h' at *
  have hge : ∀ n, k ≤ n → n < k + l.length → ∃ h : n - k < l.length, rl k l n = l[n - k] := fun n h1 h2 => ⟨by omega, by simp [rl, if_neg (show ¬ n < k by omega), List.getElem?_eq_getElem (show n - k < l.length by omega)]⟩
  have hlt : ∀ n, n < k → rl k l n = n := fun n h => by simp [rl, h]
  have inj : ∀ n n', n < k + l.length → n' < k + l.length → rl k l n = rl k l n' → n = n' := fun n n' h1 h2 he => by
    rcases Nat.lt_or_ge n k with h3 | h3 <;> rcases Nat.lt_or_ge n' k with h4 | h4
    · rw [hlt n h3, hlt n' h4] at he; exact he
    · obtain ⟨g1, g2⟩ := hge n' h4 h2
      rw [hlt n h3, g2] at he; have := (hl2 _ (List.getElem_mem g1)).1; omega
    · obtain ⟨g1, g2⟩ := hge n h3 h1
      rw [hlt n' h4, g2] at he; have := (hl2 _ (List.getElem_mem g1)).1; omega
    · obtain ⟨g1, g2⟩ := hge n h3 h1
      obtain ⟨g3, g4⟩ := hge n' h4 h2
      rw [g2, g4] at he
      have := (List.getElem_inj hl1).1 he
      omega
  have bnd : ∀ n, h' (.l n) ≠ none → n < k + l.length := fun n h => by
    rcases Nat.lt_or_ge n (k + l.length) with h1 | h1
    · exact h1
    · exact absurd (hn.no n h1) h
  have hL : ∀ n, h' (.l n) = some (.l true) → σ (.l (rl k l n)) = some (.l true) := fun n h => atE_l hat (look_end (by rw [hh]; exact h))
  have hB : ∀ n b, h' (.b n) = some (.b b) → ∃ b', σ (.b (rl k l n)) = some (.b b') ∧ SameB b' (Bren (rl k l) b) := fun n b h => atE_b hat (look_end (by rw [hh]; exact h))
  have hc0 : Cl h' := by
    have e0 : ∀ q, h' q = upd emp (endW W0 Wc) q := fun q => by
      rw [← hh]
      simp only [upd, emp, Option.or_none, endW]
      have app : ∀ (a b : Ws), lookW (a ++ b) q = (lookW a q).or (lookW b q) := fun a b => by
        induction a with
        | nil => rfl
        | cons x a ih =>
          obtain ⟨k0, x0⟩ := x
          simp only [List.cons_append, lookW]
          cases Key.beq k0 q with
          | true => rfl
          | false => simpa using ih
      rw [app]
      cases hq : lookW Wc q with
      | some y => rfl
      | none =>
        simp only [Option.none_or]
        have fil : ∀ (a : Ws), lookW (a.filter fun x => (lookW Wc x.1).isNone) q = lookW a q := fun a => by
          induction a with
          | nil => rfl
          | cons x a ih =>
            obtain ⟨k0, x0⟩ := x
            by_cases hk : k0 = q
            · subst hk
              rw [List.filter_cons_of_pos (by simp [hq])]; simp [lookW, Key.beq_refl]
            · cases hf : (lookW Wc k0).isNone with
              | true => rw [List.filter_cons_of_pos (by simpa using hf)]; simp only [lookW, Key.beq_ne hk, cond_false]; exact ih
              | false => rw [List.filter_cons_of_neg (by simp [hf])]; simp only [lookW, Key.beq_ne hk, cond_false]; exact ih
        rw [fil]
    have : Cl (upd emp (endW W0 Wc)) := Cl.updB ⟨fun q x h => (by cases h), fun n h => absurd rfl h⟩ hcl
    have e1 : h' = upd emp (endW W0 Wc) := funext e0
    rw [e1]; exact this
  have tr : ∀ n, h' (.l n) ≠ none → (live h' n → live σ (rl k l n)) ∧ True := fun n _ => ⟨fun h => hL n h, trivial⟩
  have tr3 : ∀ n, Tr2 σ e (rl k l) h' (eAt e (rl k l)) (fun n => n) n := fun n => ⟨fun h => hL n h, rfl, rfl, rfl⟩
  refine ⟨⟨fun n b h1 h2 => ?_, fun n n' b b' h1 h2 h3 h4 hne ho => ?_, fun n b h1 h2 h3 => ?_, hc0, fun n h => ?_, hW.os, hW.tape, hW.output, hW.size, hW.old⟩, fun v u hu hv => ?_⟩
  · obtain ⟨b', g1, g2⟩ := hB n b h2
    have := BOk.tr (w2 := w) (tr3 n) (fun m _ => tr3 m) (fun _ => rfl) (BOk.sameB g2 (hW.blk _ _ (hL n h1) g1))
    rwa [Bren_id] at this
  · obtain ⟨b1, g1, g2⟩ := hB n b h2
    obtain ⟨b2, g3, g4⟩ := hB n' b' h4
    exact hW.sep _ _ b1 b2 (hL n h1) g1 (hL n' h3) g3 (fun h => hne (inj n n' (bnd n (by rw [h1]; simp)) (bnd n' (by rw [h3]; simp)) h)) (by rw [g2.own, Bren_own]; exact ho)
  · obtain ⟨b1, g1, g2⟩ := hB n b h2
    exact hW.own _ b1 (hL n h1) g1 (by rw [g2.own, Bren_own]; exact h3)
  · have e1 : rl k l n = n := by
      rcases h with h | h
      · exact hlt n h
      · have := Nat.le_of_ble_eq_true hb
        simp [rl, if_neg (show ¬ n < k by omega), List.getElem?_eq_none (show l.length ≤ n - k by omega)]
    have := hW.given n h
    exact ⟨by show e.id (rl k l n) = _; rw [e1]; exact this.id, by show e.bs (rl k l n) = _; rw [e1]; exact this.bs, by show e.rm (rl k l n) = _; rw [e1]; exact this.rm⟩
  · have := OkV.tr (ρ2 := fun n => n) (fun n hn => tr3 n) hu
    rwa [Vren_id] at this
def vAl (h : Sf) (v : V) (m : Nat) : Bool := v.names.all fun n => Nat.blt n m && lv h n
/-- The end of a contract over few blocks: l tells by which names the new blocks go here. -/
theorem eLeaveN {P : Program} {fn : Func} {w0 : World} {tch : Nat → Prop} {ini : Env} {N k : Nat} {R : Ending → World → Prop} {W0 Wc : Ws} {vs : List V} {v v' : V} {x : Exit} {fm : List Nat} (l : List Nat)
    (hR : ∀ e u w, RealW ⟨P, w0, tch, GV k 1000000, ini, N, []⟩ (upd (upd emp W0) Wc) e w → OkV (upd (upd emp W0) Wc) e v u → (∀ n ∈ v.names, upd (upd emp W0) Wc (.l n) ≠ none) → R (.returned u) w)
    (hx : x = .ret ∨ x = .normal) (hr : resL P (killM σ fm) fn.results.toList = some vs) (hv : tupC vs = some v') (hvv : v' = Vren (rl k l) v) (hat : atE (killM σ fm) (rl k l) (endW W0 Wc))
    (hl : rlOk k l = true) (hb : Nat.ble (k + l.length) 1000000 = true) (hn : NL (k + l.length) (upd (upd emp W0) Wc)) (hcl : clB emp (endW W0 Wc) = true) (hva : vAl (upd (upd emp W0) Wc) v (k + l.length) = true) (hnd : autoParam (fm.Nodup) aNDP._auto_1) :
    KX ⟨P, w0, tch, GV k 1000000, ini, N, fm⟩ (bodyPostM Fence.wide nn P fn R x) σ sup :=
  ⟨KW_leave hx rfl hnd hr hv fun e u w hW hu _ => by
    have hW : RealW ⟨P, w0, tch, GV k 1000000, ini, N, []⟩ (killM σ fm) e w := ⟨hW.blk, hW.sep, hW.own, hW.cl, hW.given, hW.os, hW.tape, hW.output, hW.size, hW.old⟩
    obtain ⟨r1, r2⟩ := RealW.pull hW hl hb hn hat hcl
    have hal : ∀ n ∈ v.names, n < k + l.length ∧ upd (upd emp W0) Wc (.l n) = some (.l true) := fun n hn => by
      have := List.all_eq_true.1 hva n hn
      simp only [Bool.and_eq_true] at this
      exact ⟨by simpa [Nat.blt_eq] using this.1, lv_eq this.2⟩
    exact hR _ u w r1 (r2 v u (by rw [← hvv]; exact hu) hal) (fun n hn => by rw [(hal n hn).2]; simp)⟩
end
end Go.Proofs.Ytnmkpekfkfckoaa.EW
namespace Go.Proofs.Ytnmkpekfkfckoaa.EW
set_option linter.unusedSimpArgs false
set_option linter.unusedVariables false
open Go.RowKit EV
open SX (Is)
/-- Values that stand in rows. -/
class RowV (L : List Value) (z : outParam Nat) (n : outParam Nat) (row : outParam (Nat → List Value)) : Prop where
  len' : L.length = n * z
  cut' : ∀ j, j < n → (L.drop (j * z)).take z = row j
/-- Cells that stand in rows. -/
class RowL (l : List C) (z : outParam Nat) (n : outParam Nat) (row : outParam (Nat → List C)) : Prop where
  len' : l.length = n * z
  cut' : ∀ j, j < n → (l.drop (j * z)).take z = row j
instance {L : List Value} {z n : Nat} {row : Nat → List Value} [h : RowV L z n row] : RowL (L.map C.v) z n (fun j => (row j).map C.v) :=
  ⟨by simpa using h.len', fun j hj => by rw [← List.map_drop, ← List.map_take, h.cut' j hj]⟩
section
variable {l : List C} {z n : Nat} {row : Nat → List C}
theorem RowL.len [h : RowL l z n row] : l.length = n * z := h.len'
theorem RowL.cut [h : RowL l z n row] {j : Nat} (hj : j < n) : Is ((l.drop (j * z)).take z) (row j) := ⟨h.cut' j hj⟩
end
theorem RowV.len {L : List Value} {z n : Nat} {row : Nat → List Value} [h : RowV L z n row] : L.length = n * z := h.len'
/-- Cells of which each is told. -/
class ElemV (L : List Value) (n : outParam Nat) (el : outParam (Nat → Value)) : Prop where
  len' : L.length = n
  get' : ∀ j, j < n → L[j]? = some (el j)
class Elems (l : List C) (n : outParam Nat) (el : outParam (Nat → C)) : Prop where
  len' : l.length = n
  get' : ∀ j, j < n → l[j]? = some (el j)
theorem Elems.len {l : List C} {n : Nat} {el : Nat → C} [h : Elems l n el] : l.length = n := h.len'
theorem ElemV.len {L : List Value} {n : Nat} {el : Nat → Value} [h : ElemV L n el] : L.length = n := h.len'
theorem joinAll {L us : List Value} {n : Nat} (h : n = L.length) : Is ((L.drop 0).take n ++ us) (L ++ us) := ⟨by rw [h]; simp⟩
theorem takeAll {L : List Value} {n : Nat} (h : n = L.length) : Is ((L.drop 0).take n) L := ⟨by rw [h]; simp⟩
theorem PlL.drop {l : List C} {L : List Value} (h : PlL l L) (n : Nat) : PlL (l.drop n) (L.drop n) := by rw [h.eq, ← List.map_drop]; exact .map _
theorem PlL.take {l : List C} {L : List Value} (h : PlL l L) (n : Nat) : PlL (l.take n) (L.take n) := by rw [h.eq, ← List.map_take]; exact .map _
section
variable {c : Ctx} {F : Fence} {nn : Nat} {id : Nat} {ops : Array Oper} {draw : Bool} {Q : Exit → Act → World → Prop} {σ0 σ : Sf} {i : Nat} {rest : List Oper} {tr : List Tr} {sup : List Nat}
theorem eStoreW [hF : WideLike F] {n o k : Nat} {t : TypeId} {x y : Operand} {v : V} {L us L' : List Value} {vs : List C} {ks : List Key} {rt : TypeId} {pos : String} {af : Array Edge} {g : Option (Nat × Bool)} {gk : List Key}
    (hr : RX c F nn id ops draw Q σ0 (i + 1) rest (upd σ ([(.b n, .b (.w true L'))])) (⟨orR gk (kr (.l n :: .b n :: (ks ++ (opk x ++ opk y)))), [(.b n, .b (.w true L'))]⟩ :: tr) sup)
    (hG : autoParam (GOk ops σ g gk) aGOK._auto_1) (hx : opv σ x = some (.c (.p n o)) := by rfl) (ha : σ (.l n) = some (.l true) := by rfl) (hb : σ (.b n) = some (.b (.w true L)) := by rfl) (hy : opv σ y = some (v) := by rfl) (hv : autoParam (CV σ v vs ks) aCV._auto_1) (hp : autoParam (PlL vs us) aPLX._auto_1) (hk : tS c.P t = some k := by rfl) (hvk : autoParam (vs.length = k) aLEN._auto_1) (hle : autoParam (o + k ≤ L.length) aLENV._auto_1) (h0 : autoParam (vs ≠ []) aNE._auto_1) (hl' : autoParam (Is (putL o us L) L') aPUTW._auto_1) :
    RX c F nn id ops draw Q σ0 i (⟨none, .store t x y, rt, pos, af, g⟩ :: rest) σ tr sup := RX_o (t := ⟨kr (.l n :: .b n :: (ks ++ (opk x ++ opk y))), [(.b n, .b (.w true L'))]⟩) hr hG (LocalO.store hF hx ha hb rfl hy hv (hvk ▸ hk) (by rw [List.length_map, hvk]; exact hle) h0 (by rw [← hl'.eq, hp.eq, ← putL_map]; rfl))
theorem eAppGW [hF : WideLike F] {d : Tmp} {n m o len lb k z len' : Nat} {x y : Operand} {t t2 el : TypeId} {vs : List C} {L us L' : List Value} {ks : List Key} {ti : TypeInfo} {zv : Value} {rt : TypeId} {pos : String} {af : Array Edge} {g : Option (Nat × Bool)} {gk : List Key}
    (hr : RX c F nn id ops draw Q σ0 (i + 1) rest (upd σ ((.t d, .v (.c (.g m 0 len' len' z))) :: (.l n, .l false) :: (.l m, .l true) :: (.b m, .b (.w true L')) :: [])) (⟨orR gk (kr (.l m :: .l n :: .b n :: (ks ++ opk x))), (.t d, .v (.c (.g m 0 len' len' z))) :: (.l n, .l false) :: (.l m, .l true) :: (.b m, .b (.w true L')) :: []⟩ :: tr) sup)
    (hG : autoParam (GOk ops σ g gk) aGOK._auto_1) (hx : opv σ x = some (.c (.g n o len lb z)) := by rfl) (ha : σ (.l n) = some (.l true) := by rfl) (hb : σ (.b n) = some (.b (.w true L)) := by rfl) (hle : autoParam (o + len * z ≤ L.length) aLENV._auto_1) (ht : c.P.underlying t = some (.slice el) := by rfl) (hz : tS c.P el = some z := by rfl) (hs : autoParam (SrcOk c σ y k z vs ks) aSRC._auto_1) (hp : autoParam (PlL vs us) aPLX._auto_1) (hT : autoParam (AppT c.P t t2 el z ti zv (len + k)) aAPPT._auto_1) (hm : autoParam (¬ c.gv m) aGVN._auto_1) (hn : σ (.l m) = none := by rfl) (e1 : autoParam (Is (len + k) len') aOFF._auto_1) (e2 : autoParam (Is ((L.drop o).take (len * z) ++ us) L') aJOINW._auto_1) (hN : dOk c.N (some d) = true := by rfl) :
    RX c F nn id ops draw Q σ0 i (⟨some d, .call ⟨.builtin .append, #[x, y], #[t, t2]⟩, rt, pos, af, g⟩ :: rest) σ tr (m :: sup) := RX_o (t := ⟨kr (.l m :: .l n :: .b n :: (ks ++ opk x)), (.t d, .v (.c (.g m 0 len' len' z))) :: (.l n, .l false) :: (.l m, .l true) :: (.b m, .b (.w true L')) :: []⟩) hr hG (e1.eq ▸ LocalO.appendG hF hN hx ha hb rfl (by rw [List.length_map]; exact hle) hs hT hm hn (by show some (true, _) = _; rw [← e2.eq, hp.eq, List.map_append, List.map_take, List.map_drop]))
theorem eAppZW [hF : WideLike F] {d : Tmp} {n m o k z len' : Nat} {x y : Operand} {t t2 el : TypeId} {vs : List C} {us L' : List Value} {ks : List Key} {ti : TypeInfo} {zv : Value} {rt : TypeId} {pos : String} {af : Array Edge} {g : Option (Nat × Bool)} {gk : List Key}
    (hr : RX c F nn id ops draw Q σ0 (i + 1) rest (upd σ ((.t d, .v (.c (.g m 0 len' len' z))) :: (.l m, .l true) :: (.b m, .b (.w true L')) :: [])) (⟨orR gk (kr (.l m :: .l n :: (ks ++ opk x))), (.t d, .v (.c (.g m 0 len' len' z))) :: (.l m, .l true) :: (.b m, .b (.w true L')) :: []⟩ :: tr) sup)
    (hG : autoParam (GOk ops σ g gk) aGOK._auto_1) (hx : opv σ x = some (.c (.s n o 0 0)) := by rfl) (ha : σ (.l n) = some (.l true) := by rfl) (ht : c.P.underlying t = some (.slice el) := by rfl) (hz : tS c.P el = some z := by rfl) (hs : autoParam (SrcOk c σ y k z vs ks) aSRC._auto_1) (hp : autoParam (PlL vs us) aPLX._auto_1) (hT : autoParam (AppT c.P t t2 el z ti zv (0 + k)) aAPPT._auto_1) (hm : autoParam (¬ c.gv m) aGVN._auto_1) (hn : σ (.l m) = none := by rfl) (e1 : autoParam (Is (0 + k) len') aOFF._auto_1) (e2 : autoParam (Is (us) L') aJOINW._auto_1) (hN : dOk c.N (some d) = true := by rfl) :
    RX c F nn id ops draw Q σ0 i (⟨some d, .call ⟨.builtin .append, #[x, y], #[t, t2]⟩, rt, pos, af, g⟩ :: rest) σ tr (m :: sup) := RX_o (t := ⟨kr (.l m :: .l n :: (ks ++ opk x)), (.t d, .v (.c (.g m 0 len' len' z))) :: (.l m, .l true) :: (.b m, .b (.w true L')) :: []⟩) hr hG ((by rw [← e1.eq, Nat.zero_add]; exact LocalO.appendZ hF hN hx ha hs hT hm hn (by show some (true, _) = _; rw [← e2.eq, hp.eq])))
theorem eAppNW [hF : WideLike F] {d : Tmp} {m k z len' : Nat} {p : Option Addr} {x y : Operand} {t t2 el : TypeId} {vs : List C} {us L' : List Value} {ks : List Key} {ti : TypeInfo} {zv : Value} {rt : TypeId} {pos : String} {af : Array Edge} {g : Option (Nat × Bool)} {gk : List Key}
    (hr : RX c F nn id ops draw Q σ0 (i + 1) rest (upd σ ((.t d, .v (.c (.g m 0 len' len' z))) :: (.l m, .l true) :: (.b m, .b (.w true L')) :: [])) (⟨orR gk (kr (.l m :: (ks ++ opk x))), (.t d, .v (.c (.g m 0 len' len' z))) :: (.l m, .l true) :: (.b m, .b (.w true L')) :: []⟩ :: tr) sup)
    (hG : autoParam (GOk ops σ g gk) aGOK._auto_1) (hx : opv σ x = some (.c (.v (.slice p 0 0))) := by rfl) (ht : c.P.underlying t = some (.slice el) := by rfl) (hz : tS c.P el = some z := by rfl) (hs : autoParam (SrcOk c σ y k z vs ks) aSRC._auto_1) (hp : autoParam (PlL vs us) aPLX._auto_1) (hT : autoParam (AppT c.P t t2 el z ti zv (0 + k)) aAPPT._auto_1) (hm : autoParam (¬ c.gv m) aGVN._auto_1) (hn : σ (.l m) = none := by rfl) (e1 : autoParam (Is (0 + k) len') aOFF._auto_1) (e2 : autoParam (Is (us) L') aJOINW._auto_1) (hN : dOk c.N (some d) = true := by rfl) :
    RX c F nn id ops draw Q σ0 i (⟨some d, .call ⟨.builtin .append, #[x, y], #[t, t2]⟩, rt, pos, af, g⟩ :: rest) σ tr (m :: sup) := RX_o (t := ⟨kr (.l m :: (ks ++ opk x)), (.t d, .v (.c (.g m 0 len' len' z))) :: (.l m, .l true) :: (.b m, .b (.w true L')) :: []⟩) hr hG ((by rw [← e1.eq, Nat.zero_add]; exact LocalO.appendN hF hN hx hs hT hm hn (by show some (true, _) = _; rw [← e2.eq, hp.eq])))
end
end Go.Proofs.Ytnmkpekfkfckoaa.EW
namespace Go.Proofs.Ytnmkpekfkfckoaa.EW
set_option linter.unusedSimpArgs false
set_option linter.unusedVariables false
open Go.RowKit EV
open SX (Is)
/-- The loops over functions in a text: parameters, assignments, body. -/
def ranges : Code → List (Array Tmp × Code × Code)
  | .seq a b => ranges a ++ ranges b
  | .cond _ a b => ranges a ++ ranges b
  | .block _ a => ranges a
  | .loop a => ranges a
  | .scope a => ranges a
  | .rangeFunc _ ps a b => [(ps, a, b)]
  | _ => []
def rangeAt (fn : Func) (i : Nat) : Array Tmp × Code × Code := match fn.body with
  | some c => match (ranges c)[i]? with
    | some r => r
    | none => (#[], .skip, .skip)
  | none => (#[], .skip, .skip)
/-- The record of a loop, ready. -/
abbrev lpOf (fn : Func) (i : Nat) (ts : List (Nat × V)) (D : Nat) : LoopK := { st := .ready, pending := none, N := fn.ntmps, ts := ts, params := (rangeAt fn i).1, assign := (rangeAt fn i).2.1, body := (rangeAt fn i).2.2, D := D }
/-- What a round comes to: of these values handed over, where h stands (its loop is block 0). -/
def YT (P : Program) (vs : List V) (h : Sf) (lo hi : Nat) (pe : Option Code) (h' : Sf) : Prop :=
  ∀ (c : Ctx) (e : Env) (w : World) (us : List Value) (F : Fence) (nn : Nat) (r : LoopK) (fn : FuncId) (tm : Array Value), c.P = P → (∀ n, lo ≤ n → n < hi → ¬ c.gv n) → c.gv 0 → RealW c h e w → OkVs h e vs us → (∀ v ∈ vs, ∀ n ∈ v.names, h (.l n) ≠ none) →
    (∀ l, F.inRound l = Fence.wide.inRound l) → F.fn fn → h (.l 0) = some (.l true) → h (.b 0) = some (.b (.lp r)) → tm.size = r.N → (∀ i v, (i, v) ∈ r.ts → ∃ u, tm[i]? = some u ∧ OkV h e v u) →
    us.length = r.params.size ∧ r.st = .ready ∧ RoundIn F nn P (e.id 0) fn ((r.params.zip us.toArray).foldl (fun t (p, v) => t.setIfInBounds p v) tm) r.assign r.body w fun en w' => ∃ e', en = .returned (.bool pe.isNone) ∧ RealW c h' e' w'
section
variable {k hi m : Nat} {W0 Wc : Ws} {ns : List Nat} {c : Ctx} {F : Fence} {nn : Nat} {σ s : Sf} {e : Env} {a : Act} {w w' : World}
theorem LocalO.yieldAt (hF : WideLike F) (hFr : ∀ l, F.inRound l = Fence.wide.inRound l) {x : Operand} {xs : List Operand} {tys : Array TypeId} {args vs : List V} {ks : List Key} {d : Option Tmp} {rt : TypeId} {pos : String} {af : Array Edge} {g : Option (Nat × Bool)} {pe : Option Code} {l : Nat} {r : LoopK}
    (hyt : YT c.P args (upd emp W0) ns.length hi pe (upd (upd emp W0) Wc)) (hx : opv σ x = some (.c (.y l))) (hl0 : rn ns m 0 = l) (h0k : Nat.blt 0 ns.length = true) (hr : upd emp W0 (.b 0) = some (.b (.lp r))) (hv : Vals σ xs vs ks) (ha : Is (args.map (Vren (rn ns m))) vs) (hN : dOk c.N d = true)
    (hle : Nat.ble ns.length hi = true) (hw0 : w0Ok ns.length W0 = true) (hwc : wcOk ns.length hi Wc = true) (hnd : rnOk m ns = true) (hat : atW σ (rn ns m) W0) (hfr : freeB σ m (hi - ns.length) = true) (hgv : ∀ n, m ≤ n → n < m + (hi - ns.length) → ¬ c.gv n) (hal : argsLt ns.length args = true)
    (hfm : c.fm.all (fun n => !inL ns n) = true) :
    LocalO c F nn ⟨d, .call ⟨.value x, xs.toArray, tys⟩, rt, pos, af, g⟩ σ ⟨kr (opk x ++ (ks ++ (atK ns ++ freeK m (hi - ns.length)))), putW d (.c (.v (.bool pe.isNone))) ++ renW (rn ns m) Wc⟩ := by
  intro hcl Q s e a w K hag hR hK
  have hk : ∀ q ∈ opk x ++ (ks ++ (atK ns ++ freeK m (hi - ns.length))), s q = σ q := fun q hq => hag q (kr_iff.2 hq)
  have hA : AtOk c s ns.length hi m W0 Wc ns := ⟨rfl, Nat.le_of_ble_eq_true hle, hw0, hwc, hnd, atW_mono (fun x hx => hk _ (by simp [w0_keys (m := m) hw0 x hx])) hat, fun n h1 h2 => by
      obtain ⟨g1, g2⟩ := freeB_ok hfr n h1 h2
      rw [hk (.l n) (by simp [g2])]; exact g1, hgv, fun n hn hn' => by
      have := List.all_eq_true.1 hfm n hn
      simp [inL_iff.2 hn'] at this⟩
  obtain ⟨hW0, hargs, hback⟩ := Real.at hR hA
  have S := w0_spec hw0
  have h0 : 0 < ns.length := by simpa [Nat.blt_eq] using h0k
  obtain ⟨_, y0, hy0⟩ := S.l 0 h0
  have hsl : s (.l l) = some (.l true) := by have := atW_l hA.at_ hy0; rwa [hl0] at this
  have hsb : s (.b l) = some (.b (Bren (rn ns m) (.lp r))) := by
    obtain ⟨b, g1, g2, _⟩ := S.b 0 h0
    rw [hr] at g1; cases g1
    have := atW_b hA.at_ g2; rwa [hl0] at this
  have hx' : opv s x = some (.c (.y l)) := by rw [opv_agree fun q hq => hk q (by simp [hq])]; exact hx
  have ex : a.eval x = .func (.yield (e.id l)) #[] #[] := eval_opv hx' hR fun n hn => by
    simp only [C.names, List.mem_singleton] at hn; subst hn; exact hsl
  have hvs := Vals.evals hv (fun q hq => hk q (by simp [hq])) hR
  obtain ⟨k1, fn, tm, k2, k3, k4⟩ := hR.W.blk l _ hsl hsb
  have hin : OkVs (upd emp W0) (eAt e (rn ns m)) args (xs.map a.eval) := hargs args _ (fun v hv n hn => by
    have := List.all_eq_true.1 (List.all_eq_true.1 hal v hv) n hn
    simpa [Nat.blt_eq] using this) (by rw [ha.eq]; exact hvs)
  have hnm : ∀ v ∈ args, ∀ n ∈ v.names, upd emp W0 (.l n) ≠ none := fun v hv n hn => by
    have := List.all_eq_true.1 (List.all_eq_true.1 hal v hv) n hn
    rw [(S.l n (by simpa [Nat.blt_eq] using this)).1]; simp
  have htm : ∀ i v, (i, v) ∈ r.ts → ∃ u, tm[i]? = some u ∧ OkV (upd emp W0) (eAt e (rn ns m)) v u := fun i v hv => by
    obtain ⟨u, g1, g2⟩ := k4 i (Vren (rn ns m) v) (List.mem_map.2 ⟨(i, v), hv, rfl⟩)
    refine ⟨u, g1, ?_⟩
    have h1 := hargs [v] [u] (fun v' hv' n hn => by
      rw [List.mem_singleton] at hv'; subst hv'
      obtain ⟨b, q1, _, q2⟩ := S.b 0 h0
      rw [hr] at q1; cases q1
      exact q2 n (by show n ∈ r.D :: r.ts.flatMap fun x => x.2.names; exact List.mem_cons_of_mem _ (List.mem_flatMap.2 ⟨_, hv, hn⟩))) ⟨u, [], rfl, g2, rfl⟩
    obtain ⟨u', r', he, h2, _⟩ := h1
    cases he; exact h2
  obtain ⟨y1, y2, y3⟩ := hyt ⟨c.P, w, tch0 ns.length (upd emp W0) e (rn ns m), fun n => n < ns.length, eAt e (rn ns m), 0, []⟩ (eAt e (rn ns m)) w _ F (nn - 1) r fn tm rfl (fun n h1 h2 (h3 : n < ns.length) => absurd h3 (Nat.not_lt.2 h1)) h0 hW0 hin hnm hFr (hF.fn _) (S.l 0 h0).1 hr k3 htm
  have eid : (eAt e (rn ns m)).id 0 = e.id l := by show e.id (rn ns m 0) = _; rw [hl0]
  rw [eid] at y3
  have hrun := run_yield (P := c.P) (args := (xs.map a.eval).toArray) k2 (by simpa [Bren] using y1)
  refine ⟨fun f _ => hF.fn f, ?_⟩
  rw [Oper.semAt_eq _ _ _ (noDefer rfl)]
  simp only [execOp, resolve, ex, invoke, Deferred.ofValue, List.map_toArray, Sem.run_bind, Sem.run_pure, Result.andThen_ok]
  have earr : #[] ++ (List.map a.eval xs).toArray = (List.map a.eval xs).toArray := by simp
  rw [earr, hrun]
  refine ⟨fun h => absurd h (by rw [hF.depth]; simp), RoundIn.mono y3 ?_⟩
  rintro en w' ⟨e', rfl, hW'⟩
  obtain ⟨r1, _⟩ := hback e' w' hW'
  have h5 := r1.putW (dst := d) (v := .c (.v (.bool pe.isNone))) hN Ok.of (fun n hn => by cases hn)
  rw [← upd_append] at h5
  exact hK _ _ _ h5
end
/-- Where the assignments end. -/
def beginK (P : Program) (l : Nat) (n : Nat) (body : Code) (R : Ending → World → Prop) (a₁ : Act) (w₁ : World) : Prop := ∃ w₂, (Instr.beginRound l).run P w₁ = .ok () w₂ ∧ body.wpIn (Fence.wide.inRound l) n P (roundPost P l R) a₁ w₂
def zipW : List Tmp → List V → Ws
  | p :: ps, v :: vs => (.t p, .v v) :: zipW ps vs
  | _, _ => []
def tsW (ts : List (Nat × V)) : Ws := ts.map fun x => (.t x.1, .v x.2)
def nodupN : List Nat → Bool
  | [] => true
  | n :: l => !inL l n && nodupN l
section
variable {s : Sf} {e : Env}
theorem fold_size : ∀ (ps : List Tmp) (us : List Value) (tm : Array Value), ((ps.zip us).foldl (fun t (p, v) => t.setIfInBounds p v) tm).size = tm.size
  | [], us, tm => rfl
  | p :: ps, [], tm => rfl
  | p :: ps, u :: us, tm => by rw [List.zip_cons_cons, List.foldl_cons, fold_size ps us]; simp
theorem fold_off : ∀ (ps : List Tmp) (us : List Value) (tm : Array Value) (i : Nat), i ∉ ps → ((ps.zip us).foldl (fun t (p, v) => t.setIfInBounds p v) tm)[i]? = tm[i]?
  | [], us, tm, i, _ => rfl
  | p :: ps, [], tm, i, _ => rfl
  | p :: ps, u :: us, tm, i, h => by
    rw [List.zip_cons_cons, List.foldl_cons, fold_off ps us _ i (fun h' => h (List.mem_cons_of_mem _ h')), Array.getElem?_setIfInBounds, if_neg (fun e => h (by simp [e]))]
theorem fold_on : ∀ {ps : List Tmp} {vs : List V} {us : List Value} {tm : Array Value}, OkVs s e vs us → nodupN ps = true → (∀ p ∈ ps, p < tm.size) → ∀ i y, lookW (zipW ps vs) (.t i) = some y → ∃ v u, y = .v v ∧ ((ps.zip us).foldl (fun t (p, v) => t.setIfInBounds p v) tm)[i]? = some u ∧ OkV s e v u ∧ v ∈ vs
  | [], vs, us, tm, hv, _, _, i, y, h => by simp [zipW, lookW] at h
  | p :: ps, [], us, tm, hv, _, _, i, y, h => by simp [zipW, lookW] at h
  | p :: ps, v :: vs, _, tm, ⟨u, r, rfl, h1, h2⟩, hd, hp, i, y, h => by
    simp only [nodupN, Bool.and_eq_true, Bool.not_eq_true'] at hd
    simp only [zipW, lookW] at h
    cases hk : Key.beq (.t p) (.t i) with
    | true =>
      rw [hk] at h; cases h
      have : p = i := by simpa [Key.beq] using hk
      subst this
      refine ⟨v, u, rfl, ?_, h1, List.mem_cons_self⟩
      rw [List.zip_cons_cons, List.foldl_cons, fold_off ps r _ p (fun h' => by rw [inL_iff.2 h'] at hd; exact absurd hd.1 (by simp)), Array.getElem?_setIfInBounds, if_pos rfl, if_pos (hp p List.mem_cons_self)]
    | false =>
      rw [hk] at h
      obtain ⟨v', u', q1, q2, q3, q4⟩ := fold_on h2 hd.2 (tm := tm.setIfInBounds p u) (fun q hq => by simpa using hp q (List.mem_cons_of_mem _ hq)) i y h
      exact ⟨v', u', q1, by rw [List.zip_cons_cons, List.foldl_cons]; exact q2, q3, List.mem_cons_of_mem _ q4⟩
theorem zipW_none : ∀ {ps : List Tmp} {vs : List V} {i : Nat}, ps.length = vs.length → lookW (zipW ps vs) (.t i) = none → i ∉ ps
  | [], vs, i, _, _ => by simp
  | p :: ps, [], i, hl, _ => by simp at hl
  | p :: ps, v :: vs, i, hl, h => by
    simp only [zipW, lookW] at h
    cases hk : Key.beq (.t p) (.t i) with
    | true => rw [hk] at h; cases h
    | false =>
      rw [hk] at h
      have := zipW_none (by simpa using hl) h
      have hne : ¬ p = i := fun e => by subst e; rw [Key.beq_refl] at hk; cases hk
      simp only [List.mem_cons, not_or]; exact ⟨fun e => hne e.symm, this⟩
theorem zipW_b : ∀ (ps : List Tmp) (vs : List V) (q : Key), (∀ i, q ≠ .t i) → lookW (zipW ps vs) q = none
  | [], vs, q, _ => by simp [zipW, lookW]
  | p :: ps, [], q, _ => by simp [zipW, lookW]
  | p :: ps, v :: vs, q, h => by
    simp only [zipW, lookW, Key.beq_ne (fun e => h p e.symm)]
    exact zipW_b ps vs q h
theorem tsW_look : ∀ {ts : List (Nat × V)} {q : Key} {y : KV}, lookW (tsW ts) q = some y → ∃ i v, q = .t i ∧ y = .v v ∧ (i, v) ∈ ts
  | [], q, y, h => by simp [tsW, lookW] at h
  | (j, v) :: ts, q, y, h => by
    simp only [tsW, List.map_cons, lookW] at h
    cases hk : Key.beq (.t j) q with
    | true => rw [hk] at h; cases h; exact ⟨j, v, ((Key.beq_iff _ _).1 hk).symm, rfl, List.mem_cons_self⟩
    | false =>
      rw [hk] at h
      obtain ⟨i, v', h1, h2, h3⟩ := tsW_look (ts := ts) h
      exact ⟨i, v', h1, h2, List.mem_cons_of_mem _ h3⟩
end
section
variable {k hi m : Nat} {W0 Wc : Ws} {ns : List Nat} {c : Ctx} {F : Fence} {nn : Nat} {σ s : Sf} {e : Env} {a : Act} {w w' : World} {sup : List Nat}
/-- A round's contract out of its walk. -/
theorem ytEnter {P : Program} {vs : List V} {ws : Ws} {h' : Sf} {r : LoopK} {pe : Option Code} (sup : List Nat) (hw0 : w0Ok k W0 = true) (hk : Nat.blt 0 k = true) (hh : NL hi h') (hle : Nat.ble k hi = true) (hr : upd emp W0 (.b 0) = some (.b (.lp r))) (hst : r.st = .ready) (hps : r.params.toList.length = vs.length) (hpN : r.params.toList.all (fun p => Nat.blt p r.N) = true) (hnd : nodupN r.params.toList = true)
    (hws : Is (zipW r.params.toList vs ++ tsW r.ts) ws)
    (hC : ∀ (w0 : World) (tch : Nat → Prop) (ini : Env) (nn : Nat) (R : Ending → World → Prop), (∀ e w, RealW ⟨P, w0, tch, GV k 1000000, ini, r.N, []⟩ h' e w → R (.returned (.bool pe.isNone)) w) →
      CX ⟨P, w0, tch, GV k 1000000, ini, r.N, []⟩ (Fence.wide.inRound (ini.id 0)) nn r.assign (Exit.then (beginK P (ini.id 0) nn r.body R) (fun _ _ _ => False)) (upd (upd emp W0) ws) sup) : YT P vs (upd emp W0) k hi pe h' := by
  obtain ⟨rfl⟩ := hws
  have S := w0_spec hw0
  intro c e w us F nn r' fn tm hP hm hg0 hW hu hn hFr hFn hl hb htmN htm
  rw [hr] at hb; cases hb
  have hlen := hu.length
  refine ⟨by rw [hlen, ← hps]; simp, hst, ?_⟩
  have h0 : 0 < k := by simpa [Nat.blt_eq] using hk
  have hW2 : RealW ⟨P, c.w0, c.tch, GV k 1000000, e, r.N, []⟩ (upd emp W0) e w := ⟨hW.blk, hW.sep, hW.own, hW.cl, fun _ _ => .rfl, hW.os, hW.tape, hW.output, hW.size, hW.old⟩
  have hfold : ((r.params.zip us.toArray).foldl (fun t (p, v) => t.setIfInBounds p v) tm) = ((r.params.toList.zip us).foldl (fun t (p, v) => t.setIfInBounds p v) tm) := by
    rw [← Array.foldl_toList, Array.toList_zip]
  have hpN' : ∀ p ∈ r.params.toList, p < tm.size := fun p hp => by
    rw [htmN]; simpa [Nat.blt_eq] using List.all_eq_true.1 hpN p hp
  have app : ∀ (a b : Ws) q, lookW (a ++ b) q = (lookW a q).or (lookW b q) := fun a b q => by
    induction a with
    | nil => rfl
    | cons x a ih =>
      obtain ⟨k0, x0⟩ := x
      simp only [List.cons_append, lookW]
      cases Key.beq k0 q with
      | true => rfl
      | false => simpa using ih
  have lbl : ∀ q, (∀ i, q ≠ .t i) → upd (upd emp W0) (zipW r.params.toList vs ++ tsW r.ts) q = upd emp W0 q := fun q hq => by
    have h1 := zipW_b r.params.toList vs q hq
    have h2 : lookW (tsW r.ts) q = none := by
      cases hl : lookW (tsW r.ts) q with
      | none => rfl
      | some y => obtain ⟨i, v, h3, _⟩ := tsW_look hl; exact absurd h3 (hq i)
    show (lookW (zipW r.params.toList vs ++ tsW r.ts) q).or (upd emp W0 q) = _
    rw [app, h1, h2]; rfl
  have hslot : ∀ i y, upd (upd emp W0) (zipW r.params.toList vs ++ tsW r.ts) (.t i) = some y → ∃ v u, y = .v v ∧ ((r.params.toList.zip us).foldl (fun t (p, v) => t.setIfInBounds p v) tm)[i]? = some u ∧ OkV (upd emp W0) e v u ∧ ∀ n ∈ v.names, upd emp W0 (.l n) ≠ none := fun i y hy => by
    have hy' : ((lookW (zipW r.params.toList vs) (.t i)).or (lookW (tsW r.ts) (.t i))).or (upd emp W0 (.t i)) = some y := by rw [← app]; exact hy
    cases hz : lookW (zipW r.params.toList vs) (.t i) with
    | some y' =>
      rw [hz] at hy'; cases hy'
      obtain ⟨v, u, q1, q2, q3, q4⟩ := fold_on hu hnd hpN' i y hz
      exact ⟨v, u, q1, q2, q3, hn v q4⟩
    | none =>
      rw [hz, Option.none_or] at hy'
      have hoff := zipW_none hps hz
      cases ht : lookW (tsW r.ts) (.t i) with
      | none => rw [ht, Option.none_or, S.t0] at hy'; cases hy'
      | some y' =>
        rw [ht] at hy'; cases hy'
        obtain ⟨j, v, q1, q2, q3⟩ := tsW_look ht
        cases q1
        obtain ⟨u, q4, q5⟩ := htm i v q3
        refine ⟨v, u, q2, by rw [fold_off _ _ _ _ hoff]; exact q4, q5, fun n hn' => hW.cl.1 (.b 0) _ hr n ?_⟩
        show n ∈ r.D :: r.ts.flatMap fun x => x.2.names
        exact List.mem_cons_of_mem _ (List.mem_flatMap.2 ⟨_, q3, hn'⟩)
  have hend : ∀ e' w', RealW ⟨P, c.w0, c.tch, GV k 1000000, e, r.N, []⟩ h' e' w' → ∃ e0, RealW c h' e0 w' := fun e' w' h => by
    let e0 : Env := ⟨fun n => if n < hi then e'.id n else e.id n, fun n => if n < hi then e'.bs n else e.bs n, fun n => if n < hi then e'.rm n else e.rm n⟩
    have lt : ∀ n, h' (.l n) ≠ none → n < hi := fun n hn => by
      rcases Nat.lt_or_ge n hi with h | h
      · exact h
      · exact absurd (hh.no n h) hn
    have sm : ∀ n, n < hi → e'.same e0 n := fun n hn => ⟨(if_pos hn).symm, (if_pos hn).symm, (if_pos hn).symm⟩
    have h1 : RealW ⟨c.P, c.w0, c.tch, fun n => c.gv n ∧ False, c.ini, c.N, c.fm⟩ h' e' w' := ⟨h.blk, h.sep, h.own, h.cl, fun _ hx => hx.2.elim, h.os, h.tape, h.output, h.size, h.old⟩
    have h2 := RealW.reenv h1 (e' := e0) (fun n hn => sm n (lt n hn)) (fun _ hx => hx.2.elim)
    refine ⟨e0, h2.blk, h2.sep, h2.own, h2.cl, fun n hn => ?_, h2.os, h2.tape, h2.output, h2.size, h2.old⟩
    rcases Nat.lt_or_ge n hi with h3 | h3
    · have h4 : n < k := by
        rcases Nat.lt_or_ge n k with h4 | h4
        · exact h4
        · exact absurd hn (hm n h4 h3)
      exact (sm n h3).symm.trans ((h.given n (.inl h4)).trans (hW.given n hn))
    · have h5 : e0.same e n := ⟨if_neg (by omega), if_neg (by omega), if_neg (by omega)⟩
      exact h5.trans (hW.given n hn)
  refine roundIn_of_wpIn hFn ?_
  rw [hFr, hfold]
  refine (hC c.w0 c.tch e nn (fun en w' => ∃ e', en = .returned (.bool pe.isNone) ∧ RealW c h' e' w') (fun e' w' h => by
    obtain ⟨e0, h0⟩ := hend e' w' h; exact ⟨e0, rfl, h0⟩)).go.go e _ w ⟨?_, rfl, (fun n hn => by cases hn), ?_, fun i v hx => ?_⟩
  · refine hW2.slots (fun n => lbl _ (by simp)) (fun n => lbl _ (by simp)) ⟨fun q x hx n hn' => ?_, fun n hx => ?_⟩
    · rw [lbl (.l n) (by simp)]
      cases q with
      | t i => obtain ⟨v, u, q1, _, _, q4⟩ := hslot i x hx; subst q1; exact q4 n hn'
      | b j => rw [lbl (.b j) (by simp)] at hx; exact hW.cl.1 (.b j) x hx n hn'
      | l j => rw [lbl (.l j) (by simp)] at hx; exact hW.cl.1 (.l j) x hx n hn'
    · rw [lbl (.l n) (by simp)]; rw [lbl (.b n) (by simp)] at hx; exact hW.cl.2 n hx
  · show ((r.params.toList.zip us).foldl (fun t (p, v) => t.setIfInBounds p v) tm).size = r.N
    rw [fold_size]; exact htmN
  · obtain ⟨v', u, q1, q2, q3, _⟩ := hslot i _ hx
    cases q1
    exact ⟨u, q2, OkV.mono (s := upd emp W0) (fun m _ => ⟨fun hl => by unfold live at *; rwa [lbl (.l m) (by simp)] at hl, .rfl⟩) q3⟩
/-- The body begins. -/
theorem eBegin {P : Program} {w0 : World} {tch : Nat → Prop} {ini : Env} {N n : Nat} {body : Code} {r1 : LoopK} {R : Ending → World → Prop} (hk : Nat.blt 0 k = true) (ha : σ (.l 0) = some (.l true)) (hb : σ (.b 0) = some (.b (.lp r1))) (hs : r1.st = .ready)
    (h : CX ⟨P, w0, tch, GV k 1000000, ini, N, []⟩ (Fence.wide.inRound (ini.id 0)) n body (roundPost P (ini.id 0) R) (upd σ [(.b 0, .b (.lp { r1 with st := .busy }))]) sup) :
    KX ⟨P, w0, tch, GV k 1000000, ini, N, []⟩ (Exit.then (beginK P (ini.id 0) n body R) (fun _ _ _ => False) .normal) σ sup := ⟨⟨fun e1 a1 w1 hR1 => by
  have h0 : 0 < k := by simpa [Nat.blt_eq] using hk
  have id1 : e1.id 0 = ini.id 0 := (hR1.W.given 0 (.inl h0)).id
  obtain ⟨rec, m1, m2, m3, m4⟩ := hR1.W.loopSet ha hb .busy r1.pending
  rw [id1] at m1 m4
  refine ⟨_, run_beginRound m1 (by rw [m2]; exact hs), ?_⟩
  have hrec : ({ rec with state := .busy } : Loop) = { rec with state := .busy, pending := r1.pending } := by rw [← m3]
  refine h.go.go e1 a1 _ ?_
  rw [hrec]
  exact hR1.withW m4 (fun i => by rw [upd_cons_ne _ _ _ (by simp), upd_nil]) (fun k hk => ⟨fun hv => by unfold live at *; rwa [upd_cons_ne _ _ _ (by simp), upd_nil] at hv, .rfl⟩) (fun n hn => by cases hn)⟩⟩
/-- A round ends. -/
theorem eRoundEnd {P : Program} {w0 : World} {tch : Nat → Prop} {ini : Env} {N : Nat} {r2 : LoopK} {R : Ending → World → Prop} {xt : Exit} {pe : Option Code} (l : List Nat) (hR : ∀ e w, RealW ⟨P, w0, tch, GV k 1000000, ini, N, []⟩ (upd (upd emp W0) Wc) e w → R (.returned (.bool pe.isNone)) w)
    (hk : Nat.blt 0 k = true) (hj : jumpOf xt = some pe) (ha : σ (.l 0) = some (.l true)) (hb : σ (.b 0) = some (.b (.lp r2)))
    (hat : atE (upd σ [(.b 0, .b (.lp { r2 with st := if pe.isNone then .ready else .done, pending := pe }))]) (rl k l) (endW W0 Wc)) (hl : rlOk k l = true) (hbl : Nat.ble (k + l.length) 1000000 = true) (hn : NL (k + l.length) (upd (upd emp W0) Wc)) (hcl : clB emp (endW W0 Wc) = true) :
    KX ⟨P, w0, tch, GV k 1000000, ini, N, []⟩ (roundPost P (ini.id 0) R xt) σ sup := ⟨⟨fun e2 a2 w2 hR2 => by
  have h0 : 0 < k := by simpa [Nat.blt_eq] using hk
  have id2 : e2.id 0 = ini.id 0 := (hR2.W.given 0 (.inl h0)).id
  obtain ⟨rec2, n1, n2, n3, n4⟩ := hR2.W.loopSet ha hb (if pe.isNone then .ready else .done) pe
  rw [id2] at n1 n4
  have hend := run_endRound (P := P) pe n1
  obtain ⟨r1, _⟩ := RealW.pull n4 hl hbl hn hat hcl
  have hfin := hR _ _ r1
  cases xt with
  | normal => cases hj; exact ⟨_, _, hend, hfin⟩
  | ret => cases hj; exact ⟨_, _, hend, hfin⟩
  | exit k => cases hj; exact ⟨_, _, hend, hfin⟩
  | goto t => cases hj
  | panic ch => cases hj
  | outgrown => cases hj⟩⟩
theorem CT.frame {P : Program} {f : FuncId} {args : List V} {v : V} (hct : CT P f args (upd emp W0) ns.length hi v (upd (upd emp W0) Wc)) (ht : ∀ i, s (.t i) = none)
    (hle : Nat.ble ns.length hi = true) (hw0 : w0Ok ns.length W0 = true) (hwc : wcOk ns.length hi Wc = true) (hnd : rnOk m ns = true) (hat : atW s (rn ns m) W0) (hfr : freeB s m (hi - ns.length) = true) (hal : argsLt ns.length args = true) :
    CT P f (args.map (Vren (rn ns m))) s m (m + (hi - ns.length)) (Vren (rn ns m) v) (upd s (renW (rn ns m) Wc)) := by
  intro c e w us hP hm hW hu hn
  have S := w0_spec hw0
  have hR : Real ⟨c.P, c.w0, c.tch, c.gv, c.ini, 0, []⟩ s e { tmps := #[], defers := [] } w := ⟨⟨hW.blk, hW.sep, hW.own, hW.cl, hW.given, hW.os, hW.tape, hW.output, hW.size, hW.old⟩, rfl, (fun n hn => by cases hn), rfl, fun i v h => by rw [ht] at h; cases h⟩
  have hA : AtOk ⟨c.P, c.w0, c.tch, c.gv, c.ini, 0, []⟩ s ns.length hi m W0 Wc ns := ⟨rfl, Nat.le_of_ble_eq_true hle, hw0, hwc, hnd, hat, fun n h1 h2 => (freeB_ok hfr n h1 h2).1, hm, fun n hn => by cases hn⟩
  obtain ⟨hW0, hargs, hback⟩ := Real.at hR hA
  have hin := hargs args us (fun v hv n hn => by
    have := List.all_eq_true.1 (List.all_eq_true.1 hal v hv) n hn
    simpa [Nat.blt_eq] using this) hu
  have hnm : ∀ v ∈ args, ∀ n ∈ v.names, upd emp W0 (.l n) ≠ none := fun v hv n hn => by
    have := List.all_eq_true.1 (List.all_eq_true.1 hal v hv) n hn
    rw [(S.l n (by simpa [Nat.blt_eq] using this)).1]; simp
  refine (hct ⟨c.P, w, tch0 ns.length (upd emp W0) e (rn ns m), fun n => n < ns.length, eAt e (rn ns m), 0, []⟩ (eAt e (rn ns m)) w us hP (fun n h1 h2 h3 => absurd h3 (Nat.not_lt.2 h1)) hW0 hin hnm).mono ?_
  rintro en w' ⟨u, e', rfl, hW', hu', hun⟩
  obtain ⟨r1, r2⟩ := hback e' w' hW'
  obtain ⟨r3, r4⟩ := r2 v u hu' hun
  exact ⟨u, _, rfl, ⟨r1.W.blk, r1.W.sep, r1.W.own, r1.W.cl, r1.W.given, r1.W.os, r1.W.tape, r1.W.output, r1.W.size, r1.W.old⟩, r3, r4⟩
theorem eRange {Q : Exit → Act → World → Prop} {g : Operand} {ps : Array Tmp} {assign body : Code} {gf nD nL : Nat} {ca : List (Nat × Nat)} {args : List V} {v : V} {r' : LoopK} (ts : List (Nat × V)) (ns : List Nat) [hF : WideLike F] (he : ∀ args w, (callFunc gf args).run c.P w = .ok (.enter gf args) w)
    (hct : CT c.P gf args (upd emp W0) ns.length hi v (upd (upd emp W0) Wc))
    (hK : KX { c with fm := nD :: c.fm } (Q .normal) (EV.mix σ (upd (upd (EV.hp (upd (upd σ (wsNew nD .df)) (wsNew nL (.lp (loop0 c.N ts ps assign body nD))))) (renW (rn ns m) Wc)) [(.b nL, .b (.lp { r' with st := .exhausted }))])) sup)
    (hro : F.round = none := by rfl) (hg : opv σ g = some (.c (.f gf ca)) := by rfl) (hca : ca.all (fun q => lv σ q.1) = true := by rfl) (hts : autoParam (subW σ (tsW ts)) aSUBT._auto_1) (hD : autoParam (¬ c.gv nD) aGVN._auto_1) (hD0 : σ (.l nD) = none := by rfl) (hL : autoParam (¬ c.gv nL) aGVN._auto_1) (hL0 : σ (.l nL) = none := by rfl) (hne : Nat.beq nD nL = false := by rfl) (hDm : Nat.blt nD m = true := by rfl) (hLm : Nat.blt nL m = true := by rfl) (hNL : autoParam (NL m σ) aNLT._auto_1)
    (ha : Is (args.map (Vren (rn ns m))) (.c (.y nL) :: capV ca) := by (exact Is.mk rfl)) (hle : Nat.ble ns.length hi = true := by rfl) (hw0 : w0Ok ns.length W0 = true := by rfl) (hwc : wcOk ns.length hi Wc = true := by rfl) (hnd : rnOk m ns = true := by rfl) (hat : autoParam (atW (EV.hp (upd (upd σ (wsNew nD .df)) (wsNew nL (.lp (loop0 c.N ts ps assign body nD))))) (rn ns m) W0) aATW._auto_1) (hgv : autoParam (∀ n, m ≤ n → n < m + (hi - ns.length) → ¬ c.gv n) aGVR._auto_1) (hal : argsLt ns.length args = true := by rfl)
    (hlb : upd (EV.hp (upd (upd σ (wsNew nD .df)) (wsNew nL (.lp (loop0 c.N ts ps assign body nD))))) (renW (rn ns m) Wc) (.b nL) = some (.b (.lp r')) := by rfl) (hl : upd (EV.hp (upd (upd σ (wsNew nD .df)) (wsNew nL (.lp (loop0 c.N ts ps assign body nD))))) (renW (rn ns m) Wc) (.l nL) = some (.l true) := by rfl) (hst : r'.st = .ready := by rfl) (hp : r'.pending = none := by rfl)
    (hfm : autoParam (∀ n ∈ nD :: c.fm, upd (EV.hp (upd (upd σ (wsNew nD .df)) (wsNew nL (.lp (loop0 c.N ts ps assign body nD))))) (renW (rn ns m) Wc) (.l n) = some (.l true) ∧ upd (EV.hp (upd (upd σ (wsNew nD .df)) (wsNew nL (.lp (loop0 c.N ts ps assign body nD))))) (renW (rn ns m) Wc) (.b n) = some (.b .df) ∧ n ≠ nL) aFMR._auto_1) : CX c F nn (.rangeFunc g ps assign body) Q σ sup := by
  have hne' : nD ≠ nL := fun e => by subst e; simp at hne
  have hDm' : nD < m := by simpa [Nat.blt_eq] using hDm
  have hLm' : nL < m := by simpa [Nat.blt_eq] using hLm
  generalize hσ1 : upd (upd σ (wsNew nD .df)) (wsNew nL (.lp (loop0 c.N ts ps assign body nD))) = σ1 at *
  have hNL1 : NL m σ1 := ⟨fun n hn => by
    rw [← hσ1, wsNew_l, if_neg (by omega), wsNew_l, if_neg (by omega)]; exact hNL.no n hn⟩
  have free : ∀ j, freeB (EV.hp σ1) m j = true := fun j => by
    induction j with
    | zero => rfl
    | succ j ih => simp only [freeB, ih, Bool.and_true]; rw [show EV.hp σ1 (.l (m + j)) = none from hNL1.no (m + j) (by omega)]; rfl
  have hfr := CT.frame hct (s := EV.hp σ1) (fun i => rfl) hle hw0 hwc hnd hat (free _) hal
  rw [ha.eq] at hfr
  have hap := w0_spec hw0
  refine ⟨CW_rangeOuter (lo := m) (hi := m + (hi - ns.length)) (r' := r') (ts := ts) (nD := nD) (nL := nL) hF hro he hg (fun q hq => lv_eq (List.all_eq_true.1 hca q hq)) (fun i v hiv => ?_) hD hD0 hL hL0 hne' (by rw [hσ1]; exact hfr) ?_ hl hlb (by rw [hst]; simp) ?_⟩
  · have key : ∀ (l : List (Nat × V)), subW σ (tsW l) → (i, v) ∈ l → σ (.t i) = some (.v v) := fun l => by
      induction l with
      | nil => intro _ h; cases h
      | cons x l ih =>
        intro h hm
        rcases List.mem_cons.1 hm with rfl | hm
        · exact h.1
        · exact ih h.2 hm
    exact key ts hts hiv
  · rw [hσ1]
    have e1 : ∀ n, upd (upd (EV.hp σ1) (renW (rn ns m) Wc)) [(.b nL, .b (.lp { r' with st := .exhausted, pending := r'.pending }))] (.l n) = upd (EV.hp σ1) (renW (rn ns m) Wc) (.l n) := fun n => by rw [upd_cons_ne _ _ _ (by simp), upd_nil]
    refine ⟨hgv, fun n hn => hNL1.no n hn, fun n hn hx => ?_, fun n hn => ?_, fun n hn => ?_⟩
    · rw [e1] at hx
      simp only [upd] at hx
      cases hq : lookW (renW (rn ns m) Wc) (.l n) with
      | none => rw [hq, Option.none_or] at hx; exact hx
      | some y =>
        obtain ⟨⟨q0, x0⟩, hx1, he'⟩ := look_renW_img hq
        have := List.all_eq_true.1 hwc _ hx1
        cases q0 with
        | l i =>
          simp only [Kren, Key.l.injEq] at he'
          rcases Nat.lt_or_ge i ns.length with h | h
          · obtain ⟨_, z, hz⟩ := hap.l i h
            have := atW_l hat hz
            rw [he'] at this; exact this
          · rw [rn_ge h] at he'; omega
        | b i => simp [Kren] at he'
        | t i => simp [Kren] at he'
    · obtain ⟨h1, h2, h3⟩ := hfm n hn
      refine ⟨by rw [e1]; exact h1, ?_⟩
      rw [upd_cons_ne _ _ _ (by simpa using fun e => h3 e.symm), upd_nil]; exact h2
    · rw [e1]
      simp only [upd]
      cases lookW (renW (rn ns m) Wc) (.l n) with
      | some y => simp
      | none => rw [Option.none_or]; exact hn
  · rw [hp]
    have h9 := hK.go
    rw [hp] at h9
    exact h9
theorem isRange {Q : Exit → Act → World → Prop} {g : Operand} {ps : Array Tmp} {assign body : Code} (h : CX c F nn (.rangeFunc g ps assign body) Q σ sup) : CX c F nn (.rangeFunc g ps assign body) Q σ sup := h
class FRd (F : Fence) : Prop where
  r : ∀ l, F.inRound l = Fence.wide.inRound l
instance frd_wide : FRd Fence.wide := ⟨fun _ => rfl⟩
/-- A call of the function that a loop hands over, by the round's contract. -/
theorem eYieldN {id : Nat} {ops : Array Oper} {draw : Bool} {Q : Exit → Act → World → Prop} {σ0 : Sf} {i : Nat} {rest : List Oper} {tr : List Tr} {d : Tmp} {ws : Ws} {x : Operand} {xs : List Operand} {tys : Array TypeId} {args vs : List V} {ks : List Key} {rt : TypeId} {pos : String} {af : Array Edge} {g : Option (Nat × Bool)} {gk : List Key} {pe : Option Code} {l : Nat} {r : LoopK} {b : Bool} (ns : List Nat) [hF : WideLike F]
    (hyt : YT c.P args (upd emp W0) ns.length hi pe (upd (upd emp W0) Wc))
    (hr' : RX c F nn id ops draw Q σ0 (i + 1) rest (upd σ ((.t d, .v (.c (.v (.bool b)))) :: ws)) (⟨orR gk (kr (opk x ++ (ks ++ (atK ns ++ freeK m (hi - ns.length))))), (.t d, .v (.c (.v (.bool b)))) :: ws⟩ :: tr) sup)
    (hFr : FRd F := by first | exact EW.frd_wide | exact EW.frd_round _) (hG : autoParam (GOk ops σ g gk) aGOK._auto_1) (hx : opv σ x = some (.c (.y l)) := by rfl) (hl0 : rn ns m 0 = l := by rfl) (h0k : Nat.blt 0 ns.length = true := by rfl) (hr : upd emp W0 (.b 0) = some (.b (.lp r)) := by rfl) (hv : autoParam (Vals σ xs vs ks) aVALS._auto_1) (ha : Is (args.map (Vren (rn ns m))) vs := by (exact Is.mk rfl)) (hN : dOk c.N (some d) = true := by rfl)
    (hle : Nat.ble ns.length hi = true := by rfl) (hw0 : w0Ok ns.length W0 = true := by rfl) (hwc : wcOk ns.length hi Wc = true := by rfl) (hnd : rnOk m ns = true := by rfl) (hat : autoParam (atW σ (rn ns m) W0) aATW._auto_1) (hfr : freeB σ m (hi - ns.length) = true := by rfl) (hgv : autoParam (∀ n, m ≤ n → n < m + (hi - ns.length) → ¬ c.gv n) aGVR._auto_1) (hal : argsLt ns.length args = true := by rfl)
    (hfm : c.fm.all (fun n => !inL ns n) = true := by rfl) (hb : Is pe.isNone b := by (exact Is.mk rfl)) (hws : autoParam (Is (renW (rn ns m) Wc) ws) aREN._auto_1) :
    RX c F nn id ops draw Q σ0 i (⟨some d, .call ⟨.value x, xs.toArray, tys⟩, rt, pos, af, g⟩ :: rest) σ tr (m :: sup) := by
  obtain ⟨rfl⟩ := hb; obtain ⟨rfl⟩ := hws
  exact RX_o (t := ⟨kr (opk x ++ (ks ++ (atK ns ++ freeK m (hi - ns.length)))), (.t d, .v (.c (.v (.bool pe.isNone)))) :: renW (rn ns m) Wc⟩) hr' hG (LocalO.yieldAt hF hFr.r hyt hx hl0 h0k hr hv ha hN hle hw0 hwc hnd hat hfr hgv hal hfm)
end
end Go.Proofs.Ytnmkpekfkfckoaa.EW
namespace Go.Proofs.Ytnmkpekfkfckoaa.EW
set_option linter.unusedSimpArgs false
set_option linter.unusedVariables false
open Go.RowKit EV
open SX (Is)
section
variable {c : Ctx} {F : Fence} {nn : Nat} {Q : Exit → Act → World → Prop} {σ σ' τ s : Sf} {e : Env} {a : Act} {w : World} {sup : List Nat}
/-- A block that is none. -/
theorem RealW.ghost (h : RealW c s e w) {n : Nat} (hm : ¬ c.gv n) (hn : s (.l n) = none) : RealW c (upd s (wsNew n (.w true []))) (e.set n 0 0 0) w := by
  have hne : ∀ {k}, s (.l k) ≠ none → k ≠ n := fun hk => not_live hn hk
  have hmo : ∀ k, k ≠ n → Mo s e (upd s (wsNew n (.w true []))) (e.set n 0 0 0) k := fun k hk => ⟨(wsNew_live hk).1, (Env.set_ne e hk).symm⟩
  have other : ∀ {j : Nat} {b' : B}, j ≠ n → upd s (wsNew n (.w true [])) (.l j) = some (.l true) → upd s (wsNew n (.w true [])) (.b j) = some (.b b') → s (.l j) = some (.l true) ∧ s (.b j) = some (.b b') := fun hj h1 h2 => by
    rw [wsNew_l, if_neg (fun e => hj e.symm)] at h1
    rw [wsNew_b, if_neg (fun e => hj e.symm)] at h2
    exact ⟨h1, h2⟩
  refine ⟨fun k b' h1 h2 => ?_, fun k k' b1 b2 h1 h2 h3 h4 hkk ho => ?_, fun k b' h1 h2 ho => ?_, h.cl.new (fun k hk => by cases hk), fun k hk => (Env.set_ne e (fun he => hm (by rw [← he]; exact hk))).trans (h.given k hk), h.os, h.tape, h.output, h.size, h.old⟩
  · by_cases hk : k = n
    · subst hk; rw [wsNew_b, if_pos rfl] at h2; cases h2
      exact ⟨by simp, .inl (by rw [Env.set_rm])⟩
    · obtain ⟨h1', h2'⟩ := other hk h1 h2
      exact (h.blk k b' h1' h2').mono (fun m hm => hmo m (hne (h.cl.1 _ _ h2' m hm))) (Env.set_ne e hk).symm (fun _ => rfl)
  · by_cases hk : k = n
    · subst hk; exact .inl (by rw [Env.set_rm])
    · by_cases hk' : k' = n
      · subst hk'; exact .inr (.inl (by rw [Env.set_rm]))
      · obtain ⟨h1', h2'⟩ := other hk h1 h2
        obtain ⟨h3', h4'⟩ := other hk' h3 h4
        rw [(Env.set_ne e hk).rm, (Env.set_ne e hk).id, (Env.set_ne e hk').rm, (Env.set_ne e hk').id]
        exact h.sep k k' b1 b2 h1' h2' h3' h4' hkk ho
  · by_cases hk : k = n
    · subst hk; exact .inl (by rw [Env.set_rm])
    · obtain ⟨h1', h2'⟩ := other hk h1 h2
      rw [(Env.set_ne e hk).rm, (Env.set_ne e hk).id]
      exact h.own k b' h1' h2' ho
theorem Real.ghost (h : Real c s e a w) {n : Nat} (hm : ¬ c.gv n) (hn : s (.l n) = none) : Real c (upd s (wsNew n (.w true []))) (e.set n 0 0 0) a w :=
  h.withW (RealW.ghost h.W hm hn) (fun i => wsNew_t) (fun k hk => ⟨(wsNew_live (not_live hn hk)).1, (Env.set_ne e (not_live hn hk)).symm⟩) (fun k hk => by
    have : k ≠ n := not_live hn (by rw [(h.fml k hk).1]; simp)
    rw [wsNew_l, wsNew_b, if_neg (fun e => this e.symm), if_neg (fun e => this e.symm)]; exact ⟨rfl, rfl⟩)
/-- A slot told in other words. -/
theorem Real.retell (h : Real c s e a w) {t : Nat} {v v' : V} (ht : s (.t t) = some (.v v)) (hv : ∀ u, OkV s e v u → OkV s e v' u) (hn : ∀ n ∈ v'.names, s (.l n) ≠ none) : Real c (upd s [(.t t, .v v')]) e a w := by
  have hb : ∀ n, upd s [(.t t, .v v')] (.b n) = s (.b n) := fun n => by rw [upd_cons_ne _ _ _ (by simp), upd_nil]
  have hl : ∀ n, upd s [(.t t, .v v')] (.l n) = s (.l n) := fun n => by rw [upd_cons_ne _ _ _ (by simp), upd_nil]
  have hmo : ∀ n, Mo s e (upd s [(.t t, .v v')]) e n := fun n => ⟨fun hx => by unfold live at *; rwa [hl] at hx, .rfl⟩
  refine ⟨h.W.slots hb hl ⟨fun q x hq n hnn => ?_, fun n hx => ?_⟩, h.defers, fun n hn => by rw [hl, hb]; exact h.fml n hn, h.slots, fun i x hx => ?_⟩
  · rw [hl]
    rw [upd_cons, upd_nil] at hq
    split at hq
    · cases hq; exact hn n hnn
    · exact h.W.cl.1 q x hq n hnn
  · rw [hl]; rw [hb] at hx; exact h.W.cl.2 n hx
  · rw [upd_cons, upd_nil] at hx
    split at hx
    · next he =>
      cases he; cases hx
      obtain ⟨u, h1, h2⟩ := h.tmp t v ht
      exact ⟨u, h1, OkV.mono (fun n _ => hmo n) (hv u h2)⟩
    · obtain ⟨u, h1, h2⟩ := h.tmp i x hx
      exact ⟨u, h1, OkV.mono (fun n _ => hmo n) h2⟩
/-- No slice, told as a short one with a block of its own. -/
theorem eNilG {code : Code} (t n z : Nat) {p : Option Addr} (hr : CX c F nn code Q (upd (upd σ (wsNew n (.w true []))) [(.t t, .v (.c (.g n 0 0 0 z)))]) sup) (ht : σ (.t t) = some (.v (.c (.v (.slice p 0 0)))) := by rfl) (hn : σ (.l n) = none := by rfl) (hg : autoParam (¬ c.gv n) aGVN._auto_1) : CX c F nn code Q σ sup :=
  ⟨⟨fun e a w hR => hr.go.go _ a w (Real.retell (Real.ghost hR hg hn) (by rw [wsNew_t]; exact ht) (fun u hu _ => by
    have : u = .slice p 0 0 := Ok.plain hu
    exact .inr ⟨rfl, rfl, p, this⟩) (fun k hk => by
    simp only [V.names, C.names, List.mem_singleton] at hk
    subst hk; rw [wsNew_l, if_pos rfl]; simp))⟩⟩
/-- Cells of plain values, told as such. -/
theorem eToW {code : Code} (n : Nat) (o : Bool) (L : List Value) (hr : CX c F nn code Q (upd σ [(.b n, .b (.w o L))]) sup) (hb : σ (.b n) = some (.b (.m o (L.map C.v))) := by rfl) : CX c F nn code Q σ sup :=
  ⟨⟨fun e a w hR => hr.go.go e a w (by
    have hbk : ∀ k, upd σ [(.b n, .b (.w o L))] (.b k) = if n = k then some (.b (.w o L)) else σ (.b k) := fun k => by rw [upd_cons, upd_nil]; simp
    have hl : ∀ k, upd σ [(.b n, .b (.w o L))] (.l k) = σ (.l k) := fun k => by rw [upd_cons_ne _ _ _ (by simp), upd_nil]
    have ht : ∀ k, upd σ [(.b n, .b (.w o L))] (.t k) = σ (.t k) := fun k => by rw [upd_cons_ne _ _ _ (by simp), upd_nil]
    have hmo : ∀ m, Mo σ e (upd σ [(.b n, .b (.w o L))]) e m := fun m => ⟨fun hx => by unfold live at *; rwa [hl] at hx, .rfl⟩
    have old : ∀ k b, upd σ [(.b n, .b (.w o L))] (.b k) = some (.b b) → ∃ b', σ (.b k) = some (.b b') ∧ b'.own = b.own ∧ (∀ w, BOk σ e w k b' → BOk σ e w k b) ∧ ∀ m ∈ b.names, m ∈ b'.names := fun k b h => by
      rw [hbk] at h
      by_cases hk : n = k
      · subst hk; rw [if_pos rfl] at h; cases h
        exact ⟨_, hb, rfl, fun _ h => h, fun m hm => by cases hm⟩
      · rw [if_neg hk] at h; exact ⟨b, h, rfl, fun _ h => h, fun m hm => hm⟩
    have h := hR.W
    refine ⟨⟨fun k b h1 h2 => ?_, fun k k' b b' h1 h2 h3 h4 hne ho => ?_, fun k b h1 h2 ho => ?_, ⟨fun q x hq m hm => ?_, fun k hx => ?_⟩, h.given, h.os, h.tape, h.output, h.size, h.old⟩, hR.defers, fun k hk => ?_, hR.slots, fun i v hx => ?_⟩
    · rw [hl] at h1
      obtain ⟨b', g1, g2, g3, g4⟩ := old k b h2
      exact (g3 w (h.blk k b' h1 g1)).mono (fun m _ => hmo m) .rfl (fun _ => rfl)
    · rw [hl] at h1 h3
      obtain ⟨b1, g1, g2, _⟩ := old k b h2
      obtain ⟨b2, g3, _⟩ := old k' b' h4
      exact h.sep k k' b1 b2 h1 g1 h3 g3 hne (g2.trans ho)
    · rw [hl] at h1
      obtain ⟨b1, g1, g2, _⟩ := old k b h2
      exact h.own k b1 h1 g1 (g2.trans ho)
    · rw [hl]
      cases q with
      | t i => rw [ht] at hq; exact h.cl.1 _ x hq m hm
      | l i => rw [hl] at hq; exact h.cl.1 _ x hq m hm
      | b i =>
        rw [hbk] at hq
        split at hq
        · cases hq; cases hm
        · exact h.cl.1 _ x hq m hm
    · rw [hl]
      rw [hbk] at hx
      split at hx
      · next hk => subst hk; exact h.cl.2 n (by rw [hb]; simp)
      · exact h.cl.2 k hx
    · rw [hl, hbk]
      obtain ⟨g1, g2⟩ := hR.fml k hk
      refine ⟨g1, ?_⟩
      split
      · next he => subst he; rw [hb] at g2; cases g2
      · exact g2
    · rw [ht] at hx
      obtain ⟨u, g1, g2⟩ := hR.tmp i v hx
      exact ⟨u, g1, OkV.mono (fun m _ => hmo m) g2⟩)⟩⟩
theorem Cren_fix {ρ : Nat → Nat} {x : C} (h : ∀ n ∈ x.names, ρ n = n) : Cren ρ x = x := by
  cases x with
  | v x => rfl
  | p n o => simp [Cren, h n (by simp [C.names])]
  | s n o l k => simp [Cren, h n (by simp [C.names])]
  | g n o l b z => simp [Cren, h n (by simp [C.names])]
  | f g caps =>
    simp only [Cren]
    congr 1
    have : caps.map (fun q => (ρ q.1, q.2)) = caps.map id := List.map_congr_left fun q hq => by
      rw [h q.1 (by simp only [C.names]; exact List.mem_map.2 ⟨q, hq, rfl⟩)]; rfl
    rw [this, List.map_id]
  | y n => simp [Cren, h n (by simp [C.names])]
theorem Crens_fix {ρ : Nat → Nat} {l : List C} (h : ∀ n ∈ l.flatMap C.names, ρ n = n) : l.map (Cren ρ) = l := by
  have : l.map (Cren ρ) = l.map id := List.map_congr_left fun x hx => Cren_fix fun n hn => h n (List.mem_flatMap.2 ⟨x, hx, hn⟩)
  rw [this, List.map_id]
theorem Vren_fix {ρ : Nat → Nat} {v : V} (h : ∀ n ∈ v.names, ρ n = n) : Vren ρ v = v := by
  cases v with
  | c x => simp only [Vren]; rw [Cren_fix h]
  | a l => simp only [Vren]; rw [Crens_fix h]
  | t l =>
    simp only [Vren]
    have : l.map (Pren ρ) = l.map id := List.map_congr_left fun x hx => by
      have hx' : ∀ n ∈ namesP x, ρ n = n := fun n hn => h n (List.mem_flatMap.2 ⟨x, hx, hn⟩)
      cases x with
      | inl x => simp only [Pren, id]; rw [Cren_fix hx']
      | inr l => simp only [Pren, id]; rw [Crens_fix hx']
    rw [this, List.map_id]
theorem Bren_fix {ρ : Nat → Nat} {b : B} (h : ∀ n ∈ b.names, ρ n = n) : Bren ρ b = b := by
  cases b with
  | m o l => simp only [Bren]; rw [Crens_fix h]
  | w o l => rfl
  | lp r =>
    simp only [Bren]
    have h1 : ρ r.D = r.D := h _ (by simp [B.names])
    have h2 : r.ts.map (fun x => (x.1, Vren ρ x.2)) = r.ts.map id := List.map_congr_left fun x hx => by
      rw [Vren_fix fun n hn => h n (by simp only [B.names]; exact List.mem_cons_of_mem _ (List.mem_flatMap.2 ⟨x, hx, hn⟩))]; rfl
    rw [h1, h2, List.map_id]
  | df => rfl
theorem Real.ren {ρ : Nat → Nat} (h : Real c σ e a w) (hcl : Cl τ)
    (hb : ∀ n b, τ (.l n) = some (.l true) → τ (.b n) = some (.b b) → ∃ b', σ (.b (ρ n)) = some (.b b') ∧ SameB b' (Bren ρ b))
    (hl : ∀ n, τ (.l n) = some (.l true) → σ (.l (ρ n)) = some (.l true))
    (ht : ∀ i v, τ (.t i) = some (.v v) → σ (.t i) = some (.v (Vren ρ v)))
    (inj : ∀ n n', τ (.l n) ≠ none → τ (.l n') ≠ none → ρ n = ρ n' → n = n')
    (hg : ∀ n, c.gv n → ρ n = n) (hf : ∀ n ∈ c.fm, ρ n = n ∧ τ (.l n) = some (.l true) ∧ τ (.b n) = some (.b .df)) : Real c τ (eAt e ρ) a w := by
  have al : ∀ {n}, τ (.l n) = some (.l true) → τ (.l n) ≠ none := fun h => by rw [h]; simp
  have tr3 : ∀ n, Tr2 σ e ρ τ (eAt e ρ) (fun n => n) n := fun n => ⟨fun h => hl n h, rfl, rfl, rfl⟩
  refine ⟨⟨fun n b h1 h2 => ?_, fun n n' b b' h1 h2 h3 h4 hne ho => ?_, fun n b h1 h2 h3 => ?_, hcl, fun n hn => ?_, h.W.os, h.W.tape, h.W.output, h.W.size, h.W.old⟩, ?_, fun n hn => (hf n hn).2, h.slots, fun i v hx => ?_⟩
  · obtain ⟨b', g1, g2⟩ := hb n b h1 h2
    have := BOk.tr (w2 := w) (tr3 n) (fun m _ => tr3 m) (fun _ => rfl) (BOk.sameB g2 (h.W.blk _ _ (hl n h1) g1))
    rwa [Bren_id] at this
  · obtain ⟨b1, g1, g2⟩ := hb n b h1 h2
    obtain ⟨b2, g3, g4⟩ := hb n' b' h3 h4
    exact h.W.sep _ _ b1 b2 (hl n h1) g1 (hl n' h3) g3 (fun h => hne (inj n n' (al h1) (al h3) h)) (by rw [g2.own, Bren_own]; exact ho)
  · obtain ⟨b1, g1, g2⟩ := hb n b h1 h2
    exact h.W.own _ b1 (hl n h1) g1 (by rw [g2.own, Bren_own]; exact h3)
  · have := h.W.given n hn
    have e1 := hg n hn
    exact ⟨by show e.id (ρ n) = _; rw [e1]; exact this.id, by show e.bs (ρ n) = _; rw [e1]; exact this.bs, by show e.rm (ρ n) = _; rw [e1]; exact this.rm⟩
  · rw [h.defers]
    exact List.map_congr_left fun n hm => by show mark1 (e.id n) = mark1 (e.id (ρ n)); rw [(hf n hm).1]
  · obtain ⟨u, h1, h2⟩ := h.tmp i _ (ht i v hx)
    have := OkV.tr (ρ2 := fun n => n) (fun n _ => tr3 n) h2
    rw [Vren_id] at this
    exact ⟨u, h1, this⟩
/-- Names that go by other ones. -/
def rp : List (Nat × Nat) → Nat → Nat
  | [], n => n
  | (x, y) :: r, n => bif Nat.beq x n then y else rp r n
def inF : List (Nat × Nat) → Nat → Bool
  | [], _ => false
  | (x, _) :: r, n => Nat.beq x n || inF r n
theorem rp_fix : ∀ {ps : List (Nat × Nat)} {n : Nat}, inF ps n = false → rp ps n = n
  | [], _, _ => rfl
  | (x, y) :: r, n, h => by
    simp only [inF, Bool.or_eq_false_iff] at h
    simp only [rp, h.1, cond_false]; exact rp_fix h.2
theorem rp_mem : ∀ {ps : List (Nat × Nat)} {n : Nat}, inF ps n = true → (n, rp ps n) ∈ ps
  | (x, y) :: r, n, h => by
    simp only [rp]
    cases hb : Nat.beq x n with
    | true => rw [Nat.eq_of_beq_eq_true hb]; simp
    | false =>
      simp only [inF, hb, Bool.false_or] at h
      exact List.mem_cons_of_mem _ (rp_mem h)
theorem rp_inj : ∀ {ps : List (Nat × Nat)} {p p' : Nat × Nat}, (ps.map (·.2)).Nodup → p ∈ ps → p' ∈ ps → p.2 = p'.2 → p = p'
  | q :: r, p, p', hn, h, h', he => by
    simp only [List.map_cons, List.nodup_cons] at hn
    rcases List.mem_cons.1 h with h1 | h1 <;> rcases List.mem_cons.1 h' with h2 | h2
    · rw [h1, h2]
    · exact absurd (List.mem_map.2 ⟨p', h2, by rw [← he, h1]⟩) hn.1
    · exact absurd (List.mem_map.2 ⟨p, h1, by rw [he, h2]⟩) hn.1
    · exact rp_inj hn.2 h1 h2 he
def subR (σ : Sf) (ρ : Nat → Nat) : Ws → Prop
  | [] => True
  | (.l n, .l true) :: r => σ (.l (ρ n)) = some (.l true) ∧ subR σ ρ r
  | (.b n, .b b) :: r => (∃ b', σ (.b (ρ n)) = some (.b b') ∧ SameB b' (Bren ρ b)) ∧ subR σ ρ r
  | (.t i, .v v) :: r => σ (.t i) = some (.v (Vren ρ v)) ∧ subR σ ρ r
  | _ => False
theorem subR.nil {ρ : Nat → Nat} : subR σ ρ [] := trivial
theorem subR.l {ρ : Nat → Nat} {n : Nat} {r : Ws} (h : σ (.l (ρ n)) = some (.l true)) (hr : subR σ ρ r) : subR σ ρ ((.l n, .l true) :: r) := ⟨h, hr⟩
theorem subR.b {ρ : Nat → Nat} {n : Nat} {b b' : B} {r : Ws} (h : σ (.b (ρ n)) = some (.b b')) (he : KV.b b' = KV.b (Bren ρ b)) (hr : subR σ ρ r) : subR σ ρ ((.b n, .b b) :: r) := ⟨⟨b', h, .inl (by injection he)⟩, hr⟩
theorem subR.t {ρ : Nat → Nat} {i : Nat} {v v' : V} {r : Ws} (h : σ (.t i) = some (.v v')) (he : KV.v v' = KV.v (Vren ρ v)) (hr : subR σ ρ r) : subR σ ρ ((.t i, .v v) :: r) := ⟨by rw [h, he], hr⟩
theorem subR_of {ρ : Nat → Nat} : ∀ {ws : Ws}, subR σ ρ ws → ∀ q x, (q, x) ∈ ws → (∃ n, q = .l n ∧ x = .l true ∧ σ (.l (ρ n)) = some (.l true)) ∨ (∃ n b b', q = .b n ∧ x = .b b ∧ σ (.b (ρ n)) = some (.b b') ∧ SameB b' (Bren ρ b)) ∨ ∃ i v, q = .t i ∧ x = .v v ∧ σ (.t i) = some (.v (Vren ρ v))
  | (.l n, .l true) :: r, h, q, x, hm => by
    rcases List.mem_cons.1 hm with e | hm
    · cases e; exact .inl ⟨n, rfl, rfl, h.1⟩
    · exact subR_of h.2 q x hm
  | (.b n, .b b) :: r, h, q, x, hm => by
    rcases List.mem_cons.1 hm with e | hm
    · cases e; obtain ⟨b', h1, h2⟩ := h.1; exact .inr (.inl ⟨n, b, b', rfl, rfl, h1, h2⟩)
    · exact subR_of h.2 q x hm
  | (.t i, .v v) :: r, h, q, x, hm => by
    rcases List.mem_cons.1 hm with e | hm
    · cases e; exact .inr (.inr ⟨i, v, rfl, rfl, h.1⟩)
    · exact subR_of h.2 q x hm
  | (.l _, .l false) :: _, h, _, _, _ => h.elim
  | (.l _, .v _) :: _, h, _, _, _ => h.elim
  | (.l _, .b _) :: _, h, _, _, _ => h.elim
  | (.b _, .v _) :: _, h, _, _, _ => h.elim
  | (.b _, .l _) :: _, h, _, _, _ => h.elim
  | (.t _, .b _) :: _, h, _, _, _ => h.elim
  | (.t _, .l _) :: _, h, _, _, _ => h.elim
def psOk (n0 : Nat) (ps : List (Nat × Nat)) (W : Ws) : Bool :=
  ps.all (fun p => Nat.ble n0 p.1 && Nat.ble n0 p.2) && (decide (ps.map (·.2)).Nodup && W.all fun x => match x.1 with | .l n => Nat.blt n n0 || inF ps n | _ => true)
def noGv (c : Ctx) : List (Nat × Nat) → Prop
  | [] => True
  | p :: r => ¬ c.gv p.1 ∧ noGv c r
theorem noGv_of : ∀ {ps : List (Nat × Nat)}, noGv c ps → ∀ {n}, c.gv n → inF ps n = false
  | [], _, _, _ => rfl
  | (x, y) :: r, h, n, hn => by
    simp only [inF, noGv_of h.2 hn, Bool.or_false]
    cases hb : Nat.beq x n with
    | false => rfl
    | true => exact absurd (by rw [Nat.eq_of_beq_eq_true hb]; exact hn) h.1
theorem eLaterN {ι : Type} {ts : List Nat} {n0 : Nat} {W : ι → Ws} {μ : ι → Nat} {j : ι} (k : ι) (ps : List (Nat × Nat)) (hlt : μ k < μ j) (hW : subR σ' (rp ps) (W k)) (hF : Frm (drp (TT ts n0) σ) (W k) σ') (hps : psOk n0 ps (W k) = true) (hgv : noGv c ps) (hcl : Cl (drp (TT ts n0) σ) → clB (drp (TT ts n0) σ) (W k) = true) (hb : Cl (drp (TT ts n0) σ)) (hfm : c.fm.all (fun n => Nat.blt n n0) = true) (hf : ∀ n ∈ c.fm, EV.upd (drp (TT ts n0) σ) (W k) (.l n) = some (.l true) ∧ EV.upd (drp (TT ts n0) σ) (W k) (.b n) = some (.b .df)) :
    KX c (Exit.then (Later c (RS σ ts n0 W) μ j) Q .normal) σ' sup := by
  simp only [psOk, Bool.and_eq_true, List.all_eq_true, decide_eq_true_eq] at hps
  obtain ⟨p1, p2, p3⟩ := hps
  have lo : ∀ n, n < n0 → rp ps n = n := fun n hn => rp_fix (by
    cases hi : inF ps n with
    | false => rfl
    | true =>
      have := (p1 _ (rp_mem hi)).1
      have := Nat.le_of_ble_eq_true this
      simp only at this; omega)
  have bN : ∀ n, n0 ≤ n → drp (TT ts n0) σ (.l n) = none := fun n hn => by
    have : Nat.ble n0 n = true := by rw [Nat.ble_eq]; exact hn
    simp [drp, TT, this]
  generalize hbs : drp (TT ts n0) σ = b at *
  have known : ∀ n, b (.l n) ≠ none → n < n0 := fun n hn => by
    rcases Nat.lt_or_ge n n0 with h | h
    · exact h
    · exact absurd (bN n h) hn
  have fst : ∀ n, EV.upd b (W k) (.l n) ≠ none → n < n0 ∨ inF ps n = true := fun n hn => by
    simp only [EV.upd] at hn
    cases hl : lookW (W k) (.l n) with
    | none => rw [hl, Option.none_or] at hn; exact .inl (known n hn)
    | some x =>
      have := p3 _ (look_mem hl)
      simp only [Bool.or_eq_true] at this
      rcases this with h | h
      · exact .inl (by simpa [Nat.blt_eq] using h)
      · exact .inr h
  have hup : ∀ q x, EV.upd b (W k) q = some x → (lookW (W k) q = some x ∧ (q, x) ∈ W k) ∨ (lookW (W k) q = none ∧ b q = some x ∧ σ' q = some x) := fun q x hx => by
    simp only [EV.upd] at hx
    cases hl : lookW (W k) q with
    | some y => rw [hl] at hx; cases hx; exact .inl ⟨rfl, look_mem hl⟩
    | none =>
      rw [hl, Option.none_or] at hx
      exact .inr ⟨rfl, hx, by rw [hF.ok q hl (by rw [hx]; simp)]; exact hx⟩
  refine ⟨⟨fun e a w hR => ⟨k, hlt, eAt e (rp ps), ?_⟩⟩⟩
  have : RS σ ts n0 W k = EV.upd b (W k) := by simp only [RS, hbs]
  rw [this]
  refine Real.ren hR (Cl.updB hb (hcl hb)) (fun n x h1 h2 => ?_) (fun n h1 => ?_) (fun i v h1 => ?_) (fun n n' h1 h2 he => ?_) (fun n hn => rp_fix (noGv_of hgv hn)) (fun n hn => ⟨lo n (by have := List.all_eq_true.1 hfm n hn; simpa [Nat.blt_eq] using this), hf n hn⟩)
  · rcases hup _ _ h2 with ⟨_, hm⟩ | ⟨_, h3, h4⟩
    · rcases subR_of hW _ _ hm with ⟨m, e1, _, _⟩ | ⟨m, b1, b', e1, e2, h5, h6⟩ | ⟨m, v, e1, _, _⟩
      · cases e1
      · cases e1; cases e2; exact ⟨b', h5, h6⟩
      · cases e1
    · have hn0 := known n (hb.2 n (by rw [h3]; simp))
      refine ⟨x, by rw [lo n hn0]; exact h4, .inl (Bren_fix fun m hm => lo m (known m (hb.1 _ _ h3 m hm))).symm⟩
  · rcases hup _ _ h1 with ⟨_, hm⟩ | ⟨_, h3, h4⟩
    · rcases subR_of hW _ _ hm with ⟨m, e1, _, h5⟩ | ⟨m, b1, b', e1, _, _, _⟩ | ⟨m, v, e1, _, _⟩
      · cases e1; exact h5
      · cases e1
      · cases e1
    · rw [lo n (known n (by rw [h3]; simp))]; exact h4
  · rcases hup _ _ h1 with ⟨_, hm⟩ | ⟨_, h3, h4⟩
    · rcases subR_of hW _ _ hm with ⟨m, e1, _, _⟩ | ⟨m, b1, b', e1, _, _, _⟩ | ⟨m, v, e1, e2, h5⟩
      · cases e1
      · cases e1
      · cases e1; cases e2; exact h5
    · rw [Vren_fix fun m hm => lo m (known m (hb.1 _ _ h3 m hm))]; exact h4
  · have big : ∀ m, inF ps m = true → n0 ≤ rp ps m := fun m hm => Nat.le_of_ble_eq_true (p1 _ (rp_mem hm)).2
    rcases fst n h1 with g1 | g1 <;> rcases fst n' h2 with g2 | g2
    · rw [lo n g1, lo n' g2] at he; exact he
    · have := big n' g2; rw [lo n g1] at he; omega
    · have := big n g1; rw [lo n' g2] at he; omega
    · have := rp_inj p2 (rp_mem g1) (rp_mem g2) he
      exact congrArg Prod.fst this
end
end Go.Proofs.Ytnmkpekfkfckoaa.EW
