/- Walking over named blocks: calls of plain values, loops by families of states, where a function begins and ends. No program in sight. -/
import Derived.Test.YtbjogekhedglgaaEw1
import Derived.LoopNIn
namespace Go.Proofs.Ytbjogekhedglgaa.EW
set_option linter.unusedSimpArgs false
set_option linter.unusedVariables false
open Go.RowKit EV
open SX (Wr Tv Qu Rm Sh Is)

instance fok_wide' : EW.FOk Fence.wide := ⟨EV.wide_like, fun _ d h => by simp [Fence.wide] at h⟩
instance fok_round' (l : Nat) : EW.FOk (Fence.wide.inRound l) := ⟨EV.round_like l, fun k d h => by simp [Fence.wide] at h⟩
/-! ### Plain values -/
inductive PlL : List C → List Value → Prop
  | nil : PlL [] []
  | cons {x : Value} {l : List C} {L : List Value} : PlL l L → PlL (.v x :: l) (x :: L)
theorem PlL.map : ∀ (L : List Value), PlL (L.map C.v) L
  | [] => .nil
  | _ :: L => .cons (PlL.map L)
theorem PlL.eq : ∀ {l : List C} {L : List Value}, PlL l L → l = L.map C.v
  | _, _, .nil => rfl
  | _, _, .cons h => by rw [h.eq]; rfl
theorem PlL.all {L : List Value} {k : Nat} (h : k = L.length) : PlL (((L.map C.v).drop 0).take k) L := by rw [List.drop_zero, List.take_of_length_le (by rw [List.length_map, h]; exact Nat.le_refl _)]; exact .map L
theorem PlL.append {l l' : List C} {L L' : List Value} (h : PlL l L) (h' : PlL l' L') : PlL (l ++ l') (L ++ L') := by
  rw [h.eq, h'.eq, ← List.map_append]; exact .map _
inductive PlT : List (C ⊕ List C) → List Value → Prop
  | nil : PlT [] []
  | one {x : Value} {l : List (C ⊕ List C)} {L : List Value} : PlT l L → PlT (.inl (.v x) :: l) (x :: L)
  | row {r : List C} {R : List Value} {l : List (C ⊕ List C)} {L : List Value} : PlL r R → PlT l L → PlT (.inr r :: l) (.agg R.toArray :: L)
inductive PlV : V → Value → Prop
  | c {x : Value} : PlV (.c (.v x)) x
  | a {l : List C} {L : List Value} : PlL l L → PlV (.a l) (.agg L.toArray)
  | t {l : List (C ⊕ List C)} {L : List Value} : PlT l L → PlV (.t l) (.tuple L.toArray)
inductive PlVs : List V → List Value → Prop
  | nil : PlVs [] []
  | cons {v : V} {x : Value} {l : List V} {L : List Value} : PlV v x → PlVs l L → PlVs (v :: l) (x :: L)
/-- Every cell of it is one. -/
def oneV : V → Bool
  | .c _ => true
  | .a l => l.all fun x => match x with | .v y => y.oneCell' | _ => false
  | .t l => l.all fun x => match x with | .inl _ => true | .inr r => r.all fun x => match x with | .v y => y.oneCell' | _ => false
theorem all_nums (k : IntKind) : ∀ (l : List Int), (((nums k l).map C.v).all fun x => match x with | .v y => y.oneCell' | _ => false) = true
  | [] => rfl
  | x :: l => by
    have := all_nums k l
    simp only [nums, List.map_cons, List.all_cons] at this ⊢
    rw [this]; rfl
section
variable {s : Sf} {e : Env}
theorem PlL.okl {l : List C} {L : List Value} (h : PlL l L) (h1 : (l.all fun x => match x with | .v y => y.oneCell' | _ => false) = true) : OkL s e l L := by
  rw [h.eq] at h1 ⊢
  exact OkL.plain L (by simpa [List.all_map, Function.comp_def] using h1)
theorem PlL.uniq {l : List C} {L us : List Value} (h : PlL l L) (k : OkL s e l us) : us = L := by rw [h.eq] at k; exact k.eq
theorem PlT.uniq : ∀ {l : List (C ⊕ List C)} {L us : List Value}, PlT l L → OkT s e l us → us = L
  | _, _, _, .nil, h => h
  | _, _, _, .one h, ⟨u, r, hu, h1, h2⟩ => by rw [hu, h.uniq h2, Ok.plain h1]
  | _, _, _, .row hr h, ⟨u, r, hu, ⟨us, h1, h3⟩, h2⟩ => by rw [hu, h.uniq h2, h1, hr.uniq h3]
theorem PlT.okt : ∀ {l : List (C ⊕ List C)} {L : List Value}, PlT l L → oneV (.t l) = true → OkT s e l L
  | _, _, .nil, _ => rfl
  | _, _, .one h, h1 => ⟨_, _, rfl, Ok.of, h.okt (by simpa [oneV] using h1)⟩
  | _, _, .row hr h, h1 => by
    simp only [oneV, List.all_cons, Bool.and_eq_true] at h1
    exact ⟨_, _, rfl, ⟨_, rfl, hr.okl h1.1⟩, h.okt h1.2⟩
theorem PlV.uniq {v : V} {x u : Value} (h : PlV v x) (k : OkV s e v u) : u = x := by
  cases h with
  | c => exact Ok.plain k
  | a h => obtain ⟨us, h1, h2⟩ := k; rw [h1, h.uniq h2]
  | t h => obtain ⟨us, h1, h2⟩ := k; rw [h1, h.uniq h2]
theorem PlV.ok {v : V} {x : Value} (h : PlV v x) (h1 : oneV v = true) : OkV s e v x := by
  cases h with
  | c => exact Ok.of
  | a h => exact ⟨_, rfl, h.okl h1⟩
  | t h => exact ⟨_, rfl, h.okt h1⟩
theorem PlL.names {l : List C} {L : List Value} (h : PlL l L) : l.flatMap C.names = [] := by rw [h.eq]; exact plain_names L
theorem PlT.names : ∀ {l : List (C ⊕ List C)} {L : List Value}, PlT l L → l.flatMap namesP = []
  | _, _, .nil => rfl
  | _, _, .one h => by simp [List.flatMap_cons, namesP, C.names, h.names]
  | _, _, .row hr h => by rw [List.flatMap_cons, h.names]; show (List.flatMap C.names _) ++ [] = []; rw [hr.names]; rfl
theorem PlV.names {v : V} {x : Value} (h : PlV v x) : v.names = [] := by
  cases h with
  | c => rfl
  | a h => exact h.names
  | t h => exact h.names
theorem PlVs.oks : ∀ {vs : List V} {L : List Value}, PlVs vs L → vs.all oneV = true → OkVs s e vs L
  | _, _, .nil, _ => rfl
  | _, _, .cons h hs, h1 => by
    simp only [List.all_cons, Bool.and_eq_true] at h1
    exact ⟨_, _, rfl, h.ok h1.1, hs.oks h1.2⟩
theorem PlVs.uniq : ∀ {vs : List V} {L us : List Value}, PlVs vs L → OkVs s e vs us → us = L
  | _, _, _, .nil, h => h
  | _, _, _, .cons h hs, ⟨u, r, hu, h1, h2⟩ => by rw [hu, hs.uniq h2, h.uniq h1]
theorem PlVs.names : ∀ {vs : List V} {L : List Value}, PlVs vs L → ∀ v ∈ vs, v.names = []
  | _, _, .nil, v, hv => by cases hv
  | _, _, .cons h hs, v, hv => by
    rcases List.mem_cons.1 hv with rfl | hv
    · exact h.names
    · exact hs.names v hv
end
section
variable {c : Ctx} {F : Fence} {nn : Nat} {id : Nat} {ops : Array Oper} {draw : Bool} {Q : Exit → Act → World → Prop} {σ0 σ s : Sf} {e : Env} {a : Act} {w : World} {i : Nat} {rest : List Oper} {tr : List Tr} {sup : List Nat}
theorem Vals.evals {xs : List Operand} {vs : List V} {ks : List Key} (h : Vals σ xs vs ks) (hag : ∀ q ∈ ks, s q = σ q) (hR : Real c s e a w) : OkVs s e vs (xs.map a.eval) := by
  induction h with
  | nil => rfl
  | @cons x v xs l ks hx h ih => exact ⟨_, _, rfl, (ev1 hx hag (fun q hq => by simp [hq]) hR).1, ih fun q hq => hag q (by simp [hq])⟩
/-- A call whose answer hangs on its arguments alone, and which leaves what was there. -/
theorem LocalO.callP (hF : WideLike F) {f : FuncId} {xs : List Operand} {tys : Array TypeId} {vs : List V} {L : List Value} {ks : List Key} {v : V} {R : Value} {d : Option Tmp} {rt : TypeId} {pos : String} {af : Array Edge} {g : Option (Nat × Bool)}
    (he : ∀ args w, (callFunc f args).run c.P w = .ok (.enter f args) w) (hx : Vals σ xs vs ks) (hl : PlVs vs L) (hc : ∀ w, Calls c.P f L.toArray w fun e w' => e = .returned R ∧ Below w.heap.size w w') (hv : PlV v R) (h1 : oneV v = true) (hN : dOk c.N d = true) :
    LocalO c F nn ⟨d, .call ⟨.value (.func f), xs.toArray, tys⟩, rt, pos, af, g⟩ σ ⟨kr ks, putW d v⟩ := by
  intro hcl Q s e a w K hag hR hK
  have ee := hl.uniq (Vals.evals hx (fun q hq => hag q (kr_iff.2 hq)) hR)
  refine ⟨fun f _ => hF.fn f, ?_⟩
  rw [Oper.semAt_eq _ _ _ (noDefer rfl)]
  simp only [execOp, resolve, invoke, Deferred.ofValue, List.map_toArray, ee, Sem.run_bind, Sem.run_pure, Result.andThen_ok, Act.eval]
  simp only [List.append_toArray, List.nil_append, List.append_nil, he, Oper.uponIn]
  refine ⟨fun h => absurd h (by rw [hF.depth]; simp), hF.calls ((hc w).mono ?_)⟩
  rintro e' w' ⟨rfl, hb⟩
  exact hK e _ _ ((hR.on hb).putW hN (hv.ok h1) (fun n hn => by rw [hv.names] at hn; cases hn))
theorem eCall {d : Tmp} {f : FuncId} {xs : List Operand} {tys : Array TypeId} {vs : List V} {L : List Value} {ks : List Key} {R : Value} {v : V} {rt : TypeId} {pos : String} {af : Array Edge} {g : Option (Nat × Bool)} {gk : List Key} [hF : WideLike F]
    (he : ∀ args w, (callFunc f args).run c.P w = .ok (.enter f args) w) (hc : ∀ w, Calls c.P f L.toArray w fun e w' => e = .returned R ∧ Below w.heap.size w w')
    (hr : RX c F nn id ops draw Q σ0 (i + 1) rest (upd σ [(.t d, .v v)]) (⟨orR gk (kr ks), [(.t d, .v v)]⟩ :: tr) sup)
    (hG : autoParam (GOk ops σ g gk) aGOK._auto_1) (hx : autoParam (Vals σ xs vs ks) aVALS._auto_1) (hl : autoParam (PlVs vs L) aPLVS._auto_1) (hv : autoParam (PlV v R) aPLV._auto_1) (h1 : autoParam (oneV v = true) aONE._auto_1) (hN : dOk c.N (some d) = true := by rfl) :
    RX c F nn id ops draw Q σ0 i (⟨some d, .call ⟨.value (.func f), xs.toArray, tys⟩, rt, pos, af, g⟩ :: rest) σ tr sup :=
  RX_o (t := ⟨kr ks, [(.t d, .v v)]⟩) hr hG (LocalO.callP hF he hx hl hc hv h1 hN)
theorem eCall0 {f : FuncId} {xs : List Operand} {tys : Array TypeId} {vs : List V} {L : List Value} {ks : List Key} {R : Value} {v : V} {rt : TypeId} {pos : String} {af : Array Edge} {g : Option (Nat × Bool)} {gk : List Key} [hF : WideLike F]
    (he : ∀ args w, (callFunc f args).run c.P w = .ok (.enter f args) w) (hc : ∀ w, Calls c.P f L.toArray w fun e w' => e = .returned R ∧ Below w.heap.size w w')
    (hr : RX c F nn id ops draw Q σ0 (i + 1) rest (upd σ []) (⟨orR gk (kr ks), []⟩ :: tr) sup)
    (hG : autoParam (GOk ops σ g gk) aGOK._auto_1) (hx : autoParam (Vals σ xs vs ks) aVALS._auto_1) (hl : autoParam (PlVs vs L) aPLVS._auto_1) (hv : autoParam (PlV v R) aPLV._auto_1) (h1 : autoParam (oneV v = true) aONE._auto_1) :
    RX c F nn id ops draw Q σ0 i (⟨none, .call ⟨.value (.func f), xs.toArray, tys⟩, rt, pos, af, g⟩ :: rest) σ tr sup :=
  RX_o (t := ⟨kr ks, []⟩) hr hG (LocalO.callP hF he hx hl hc hv h1 rfl)

/-! ### A state that says less -/
def SubS (s σ : Sf) : Prop := ∀ q x, s q = some x → σ q = some x
theorem RealW.less (h : RealW c σ e w) (hs : SubS s σ) (hc : Cl s) : RealW c s e w :=
  ⟨fun n b h1 h2 => (h.blk n b (hs _ _ h1) (hs _ _ h2)).mono (fun m _ => ⟨fun hl => hs _ _ hl, .rfl⟩) .rfl (fun _ => rfl), fun n n' b b' h1 h2 h3 h4 => h.sep n n' b b' (hs _ _ h1) (hs _ _ h2) (hs _ _ h3) (hs _ _ h4), fun n b h1 h2 => h.own n b (hs _ _ h1) (hs _ _ h2), hc, h.given, h.os, h.tape, h.output, h.size, h.old⟩
theorem Real.less (h : Real c σ e a w) (hs : SubS s σ) (hc : Cl s) (hf : ∀ n ∈ c.fm, s (.l n) = some (.l true) ∧ s (.b n) = some (.b .df)) : Real c s e a w :=
  ⟨RealW.less h.W hs hc, h.defers, hf, h.slots, fun i v hx => by
    obtain ⟨u, h1, h2⟩ := h.tmp i v (hs _ _ hx)
    exact ⟨u, h1, h2.mono fun m _ => ⟨fun hl => hs _ _ hl, .rfl⟩⟩⟩
/-- Some keys forgotten. -/
def drp (T : Key → Bool) (σ : Sf) : Sf := fun q => bif T q then none else σ q
def inN : List Nat → Nat → Bool
  | [], _ => false
  | k :: l, n => Nat.beq k n || inN l n
/-- Slots, and all names from one on. -/
def TT (ts : List Nat) (n0 : Nat) : Key → Bool
  | .t i => inN ts i
  | .b n => Nat.ble n0 n
  | .l n => Nat.ble n0 n
/-- No name from n0 on is used. -/
structure NL (n0 : Nat) (σ : Sf) : Prop where
  no : ∀ n, n0 ≤ n → σ (.l n) = none
theorem NL.emp {n0 : Nat} : NL n0 emp := ⟨fun _ _ => rfl⟩
def wsLt (n0 : Nat) (ws : Ws) : Bool := ws.all fun x => match x.1 with | .l n => Nat.blt n n0 | _ => true
theorem NL.upd {n0 : Nat} {ws : Ws} (h : NL n0 σ) (hw : wsLt n0 ws = true) : NL n0 (EV.upd σ ws) := ⟨fun n hn => by
  simp only [EV.upd, h.no n hn, Option.or_none]
  cases hl : lookW ws (.l n) with
  | none => rfl
  | some x =>
    have := List.all_eq_true.1 hw _ (look_mem hl)
    simp [Nat.blt_eq] at this; omega⟩
theorem NL.drp {n0 : Nat} {T : Key → Bool} (h : NL n0 σ) : NL n0 (EW.drp T σ) := ⟨fun n hn => by
  simp only [EW.drp, h.no n hn]; cases T (.l n) <;> rfl⟩
theorem NL.hp {n0 : Nat} (h : NL n0 σ) : NL n0 (EV.hp σ) := ⟨fun n hn => h.no n hn⟩
theorem NL.argS {n0 : Nat} {vs : List V} (h : NL n0 σ) : NL n0 (EV.argS vs σ) := ⟨fun n hn => h.no n hn⟩
theorem NL.more {n0 n1 : Nat} (h : NL n0 σ) (hn : n0 ≤ n1) : NL n1 σ := ⟨fun n h1 => h.no n (by omega)⟩
def subW (σ : Sf) : Ws → Prop
  | [] => True
  | (q, x) :: r => σ q = some x ∧ subW σ r
theorem subW.nil : subW σ [] := trivial
theorem subW.cons {q : Key} {x : KV} {r : Ws} (h : σ q = some x) (hr : subW σ r) : subW σ ((q, x) :: r) := ⟨h, hr⟩
theorem subW.conv {q : Key} {x y : KV} {r : Ws} (h : σ q = some y) (hr : subW σ r) (e : autoParam (y = x) aKVE._auto_1) : subW σ ((q, x) :: r) := ⟨e ▸ h, hr⟩
theorem kvI {k : IntKind} {a b : Int} (h : a = b) : KV.v (V.c (C.v (.int k a))) = KV.v (V.c (C.v (.int k b))) := by rw [h]
theorem kvB {a b : Bool} (h : a = b) : KV.v (V.c (C.v (.bool a))) = KV.v (V.c (C.v (.bool b))) := by rw [h]
theorem kvW {o : Bool} {a b : List Value} (h : a = b) : KV.b (B.w o a) = KV.b (B.w o b) := by rw [h]
theorem kvG {n o l l' b b' z : Nat} (h1 : l = l') (h2 : b = b') : KV.v (V.c (C.g n o l b z)) = KV.v (V.c (C.g n o l' b' z)) := by rw [h1, h2]
theorem subW_of : ∀ {ws : Ws}, subW σ ws → ∀ q x, lookW ws q = some x → σ q = some x
  | [], _, q, x, h => by cases h
  | (k, y) :: r, hs, q, x, h => by
    simp only [lookW] at h
    cases hk : Key.beq k q with
    | true => rw [hk] at h; simp at h; subst h; rw [← (Key.beq_iff _ _).1 hk]; exact hs.1
    | false => rw [hk] at h; exact subW_of hs.2 q x h
/-- Beside W nothing of b has been turned. -/
structure Frm (b : Sf) (W : Ws) (σ : Sf) : Prop where
  ok : ∀ q, lookW W q = none → b q ≠ none → σ q = b q
theorem Frm.refl {b : Sf} {W : Ws} : Frm b W b := ⟨fun _ _ _ => rfl⟩
def frmB (b : Sf) (W : Ws) (ws : Ws) : Bool := ws.all fun x => (lookW W x.1).isSome || (b x.1).isNone
theorem Frm.upd {b : Sf} {W ws : Ws} (h : Frm b W σ) (hw : frmB b W ws = true) : Frm b W (EV.upd σ ws) := ⟨fun q h1 h2 => by
  have : lookW ws q = none := by
    cases hl : lookW ws q with
    | none => rfl
    | some x =>
      have := List.all_eq_true.1 hw _ (look_mem hl)
      simp only [h1, Option.isSome_none, Bool.false_or] at this
      exact absurd (Option.isNone_iff_eq_none.1 this) h2
  simp only [EV.upd, this, Option.none_or]; exact h.ok q h1 h2⟩
/-- A loop within a loop. -/
theorem Frm.drp {σ1 : Sf} {ts1 ts2 : List Nat} {n1 n2 : Nat} {W : Ws} (h : Frm (EW.drp (TT ts1 n1) σ1) W σ) (hn : n1 ≤ n2) (ht : (ts2.all fun i => inN ts1 i || (lookW W (.t i)).isSome) = true) : Frm (EW.drp (TT ts1 n1) σ1) W (EW.drp (TT ts2 n2) σ) := ⟨fun q h1 h2 => by
  rw [← h.ok q h1 h2]
  have hb : TT ts1 n1 q = false := by
    cases hq : TT ts1 n1 q with
    | false => rfl
    | true => exact absurd (by simp [EW.drp, hq]) h2
  have h3 : TT ts2 n2 q = false := by
    cases q with
    | t i =>
      cases hi : inN ts2 i with
      | false => exact hi
      | true =>
        have key : ∀ l : List Nat, inN l i = true → i ∈ l := fun l hl => by
          induction l with
          | nil => cases hl
          | cons k l ih =>
            simp only [inN, Bool.or_eq_true] at hl
            rcases hl with hl | hl
            · rw [Nat.eq_of_beq_eq_true hl]; exact List.mem_cons_self
            · exact List.mem_cons_of_mem _ (ih hl)
        have := List.all_eq_true.1 ht i (key _ hi)
        simp only [TT] at hb
        simp [hb, h1] at this
    | b n =>
      cases h4 : TT ts2 n2 (.b n) with
      | false => rfl
      | true =>
        have h5 : n2 ≤ n := Nat.le_of_ble_eq_true h4
        have : Nat.ble n1 n = true := by rw [Nat.ble_eq]; omega
        simp only [TT] at hb; rw [this] at hb; exact absurd hb (by simp)
    | l n =>
      cases h4 : TT ts2 n2 (.l n) with
      | false => rfl
      | true =>
        have h5 : n2 ≤ n := Nat.le_of_ble_eq_true h4
        have : Nat.ble n1 n = true := by rw [Nat.ble_eq]; omega
        simp only [TT] at hb; rw [this] at hb; exact absurd hb (by simp)
  simp [EW.drp, h3]⟩
theorem SubS.of {b : Sf} {W : Ws} (hW : subW σ W) (hF : Frm b W σ) : SubS (EV.upd b W) σ := fun q x hx => by
  simp only [EV.upd] at hx
  cases hl : lookW W q with
  | some y => rw [hl] at hx; cases hx; exact subW_of hW q x hl
  | none => rw [hl, Option.none_or] at hx; rw [hF.ok q hl (by rw [hx]; simp)]; exact hx
theorem SubS.drp {T : Key → Bool} : SubS (EW.drp T σ) σ := fun q x hx => by
  unfold EW.drp at hx
  cases h : T q with
  | true => rw [h] at hx; cases hx
  | false => rw [h] at hx; exact hx
theorem Cl.drp {ts : List Nat} {n0 : Nat} (h : Cl σ) (hn : NL n0 σ) : Cl (EW.drp (TT ts n0) σ) := by
  have key : ∀ n, σ (.l n) ≠ none → EW.drp (TT ts n0) σ (.l n) ≠ none := fun n h1 => by
    have : ¬ n0 ≤ n := fun h2 => h1 (hn.no n h2)
    have e : Nat.ble n0 n = false := by
      cases hb : Nat.ble n0 n with
      | false => rfl
      | true => exact absurd (Nat.le_of_ble_eq_true hb) this
    simp only [EW.drp, TT, e, cond_false]; exact h1
  refine ⟨fun q x hx n hnn => key n (h.1 q x (SubS.drp q x hx) n hnn), fun n hx => key n (h.2 n ?_)⟩
  intro h0; apply hx
  unfold EW.drp; rw [h0]; cases TT ts n0 (.b n) <;> rfl
/-- What is kept stays closed. -/
structure ClD (ts : List Nat) (n0 : Nat) (σ : Sf) : Prop where
  go : Cl σ → Cl (EW.drp (TT ts n0) σ)
theorem ClD.nl {ts : List Nat} {n0 : Nat} (h : NL n0 σ) : ClD ts n0 σ := ⟨fun hc => Cl.drp hc h⟩
/-- What is kept names none from n0 on. -/
structure NM (ts : List Nat) (n0 : Nat) (σ : Sf) : Prop where
  no : ∀ q x, TT ts n0 q = false → σ q = some x → ∀ n ∈ x.names, n < n0
theorem NM.emp {ts : List Nat} {n0 : Nat} : NM ts n0 emp := ⟨fun _ _ _ h => by cases h⟩
def wsNm (ts : List Nat) (n0 : Nat) (ws : Ws) : Bool := ws.all fun x => TT ts n0 x.1 || x.2.names.all fun n => Nat.blt n n0
theorem NM.upd {ts : List Nat} {n0 : Nat} {ws : Ws} (h : NM ts n0 σ) (hw : wsNm ts n0 ws = true) : NM ts n0 (EV.upd σ ws) := ⟨fun q x hq hx n hn => by
  simp only [EV.upd] at hx
  cases hl : lookW ws q with
  | none => rw [hl, Option.none_or] at hx; exact h.no q x hq hx n hn
  | some y =>
    rw [hl] at hx; cases hx
    have := List.all_eq_true.1 hw _ (look_mem hl)
    simp only [hq, Bool.false_or, List.all_eq_true] at this
    simpa [Nat.blt_eq] using this n hn⟩
theorem NM.drp {ts : List Nat} {n0 : Nat} {T : Key → Bool} (h : NM ts n0 σ) : NM ts n0 (EW.drp T σ) := ⟨fun q x hq hx => h.no q x hq (SubS.drp q x hx)⟩
theorem ClD.nm {ts : List Nat} {n0 : Nat} (h : NM ts n0 σ) : ClD ts n0 σ := ⟨fun hc => by
  have low : ∀ n, n < n0 → EW.drp (TT ts n0) σ (.l n) = σ (.l n) := fun n hn => by
    have e : Nat.ble n0 n = false := by
      cases hb : Nat.ble n0 n with
      | false => rfl
      | true => have := Nat.le_of_ble_eq_true hb; omega
    simp only [EW.drp, TT, e, cond_false]
  have kept : ∀ q x, EW.drp (TT ts n0) σ q = some x → TT ts n0 q = false ∧ σ q = some x := fun q x hx => by
    unfold EW.drp at hx
    cases ht : TT ts n0 q with
    | true => rw [ht] at hx; cases hx
    | false => rw [ht] at hx; exact ⟨rfl, hx⟩
  refine ⟨fun q x hx n hn => ?_, fun n hx => ?_⟩
  · obtain ⟨h1, h2⟩ := kept q x hx
    rw [low n (h.no q x h1 h2 n hn)]; exact hc.1 q x h2 n hn
  · cases hb : EW.drp (TT ts n0) σ (.b n) with
    | none => exact absurd hb hx
    | some y =>
      obtain ⟨h1, h2⟩ := kept _ y hb
      have : n < n0 := by
        rcases Nat.lt_or_ge n n0 with h3 | h3
        · exact h3
        · have : Nat.ble n0 n = true := by rw [Nat.ble_eq]; exact h3
          simp only [TT] at h1; rw [this] at h1; cases h1
      rw [low n this]; exact hc.2 n (by rw [h2]; simp)⟩
/-- Whoever is named in ws is known. -/
def clB (b : Sf) (ws : Ws) : Bool := ws.all fun x => (x.2.names.all fun n => (EV.upd b ws (.l n)).isSome) && (match x.1 with | .b n => (EV.upd b ws (.l n)).isSome | _ => true)
theorem Cl.updB {b : Sf} {ws : Ws} (h : Cl b) (hc : clB b ws = true) : Cl (EV.upd b ws) := by
  have up : ∀ n, b (.l n) ≠ none → EV.upd b ws (.l n) ≠ none := fun n h1 => by
    simp only [EV.upd]
    cases lookW ws (.l n) with
    | some y => simp
    | none => simpa using h1
  have is : ∀ {o : Option KV}, o.isSome = true → o ≠ none := fun h1 h2 => by rw [h2] at h1; cases h1
  refine ⟨fun q x hx n hn => ?_, fun n hx => ?_⟩
  · simp only [EV.upd] at hx
    cases hl : lookW ws q with
    | some y =>
      rw [hl] at hx; cases hx
      have := List.all_eq_true.1 hc _ (look_mem hl)
      simp only [Bool.and_eq_true, List.all_eq_true] at this
      exact is (this.1 n hn)
    | none => rw [hl, Option.none_or] at hx; exact up n (h.1 q x hx n hn)
  · cases hl : lookW ws (.b n) with
    | some y =>
      have := List.all_eq_true.1 hc _ (look_mem hl)
      simp only [Bool.and_eq_true] at this
      exact is this.2
    | none =>
      refine up n (h.2 n fun h0 => hx ?_)
      simp only [EV.upd, hl, h0, Option.none_or]
/-! ### A loop -/
/-- What a round owes: the state of some later round. -/
def Later {ι : Type} (c : Ctx) (S : ι → Sf) (μ : ι → Nat) (j : ι) (a : Act) (w : World) : Prop := ∃ k, μ k < μ j ∧ ∃ e, Real c (S k) e a w
theorem exists_min {ι : Type} (μ : ι → Nat) (p : ι → Prop) (h : ∃ j, p j) : ∃ j, p j ∧ ∀ k, p k → μ j ≤ μ k := by
  obtain ⟨j, hj⟩ := h
  generalize hm : μ j = m
  induction m using Nat.strongRecOn generalizing j with
  | _ m ih =>
    by_cases hk : ∃ k, p k ∧ μ k < m
    · obtain ⟨k, hk, hlt⟩ := hk
      exact ih (μ k) hlt k hk rfl
    · exact ⟨j, hj, fun k hpk => by
        rcases Nat.lt_or_ge (μ k) m with h | h
        · exact absurd ⟨k, hpk, h⟩ hk
        · omega⟩
theorem CW_family {ι : Type} {x : Code} (S : ι → Sf) (μ : ι → Nat) (j : ι) (hs : ∀ e a w, Real c σ e a w → Real c (S j) e a w)
    (round : ∀ j, CW c F nn x (Exit.then (Later c S μ j) Q) (S j)) : CW c F nn (.loop x) Q σ := ⟨fun e a w hR => by
  refine wpIn_loop (fun a w => ∃ j, ∃ e, Real c (S j) e a w) (fun a w => open Classical in if h : ∃ j, ∃ e, Real c (S j) e a w then μ (exists_min μ (fun j => ∃ e, Real c (S j) e a w) h).choose else 0) ⟨j, e, hs e a w hR⟩ ?_
  intro a w hI
  obtain ⟨⟨e', hR'⟩, hmin⟩ := (exists_min μ (fun j => ∃ e, Real c (S j) e a w) hI).choose_spec
  refine wpIn_mono ((round _).go e' a w hR') ?_
  intro x a' w' h
  cases x with
  | normal =>
    obtain ⟨k, hlt, e2, hR2⟩ := h
    have hI2 : ∃ j, ∃ e, Real c (S j) e a' w' := ⟨k, e2, hR2⟩
    refine ⟨hI2, ?_⟩
    simp only [dif_pos hI, dif_pos hI2]
    have := (exists_min μ (fun j => ∃ e, Real c (S j) e a' w') hI2).choose_spec.2 k ⟨e2, hR2⟩
    exact Nat.lt_of_le_of_lt this hlt
  | exit => exact h
  | goto => exact h
  | ret => exact h
  | panic => exact h
  | outgrown => exact h⟩
/-- The state of a round. -/
def RS {ι : Type} (σ : Sf) (ts : List Nat) (n0 : Nat) (W : ι → Ws) (j : ι) : Sf := EV.upd (drp (TT ts n0) σ) (W j)
theorem eLoop {ι : Type} {x : Code} (ts : List Nat) (n0 : Nat) (W : ι → Ws) (μ : ι → Nat) (j : ι) (h0 : subW σ (W j)) (hN : ClD ts n0 σ) (hc : ∀ j, clB (drp (TT ts n0) σ) (W j) = true) (hf : ∀ j, ∀ n ∈ c.fm, EV.upd (drp (TT ts n0) σ) (W j) (.l n) = some (.l true) ∧ EV.upd (drp (TT ts n0) σ) (W j) (.b n) = some (.b .df))
    (round : ∀ j, CX c F nn x (Exit.then (Later c (RS σ ts n0 W) μ j) Q) (EV.upd (drp (TT ts n0) σ) (W j)) sup) : CX c F nn (.loop x) Q σ sup :=
  ⟨⟨fun e a w hR => (CW_family (RS σ ts n0 W) μ j (fun e a w hR => Real.less hR (fun q x hx => by
      simp only [RS, EV.upd] at hx
      cases hl : lookW (W j) q with
      | some y => rw [hl] at hx; cases hx; exact subW_of h0 q x hl
      | none => rw [hl, Option.none_or] at hx; exact SubS.drp q x hx) (Cl.updB (hN.go hR.W.cl) (hc j)) (hf j)) (fun j => (round j).go)).go e a w hR⟩⟩
theorem eLater {ι : Type} {σ' : Sf} {ts : List Nat} {n0 : Nat} {W : ι → Ws} {μ : ι → Nat} {j : ι} (k : ι) (hlt : μ k < μ j) (hW : subW σ' (W k)) (hF : Frm (drp (TT ts n0) σ) (W k) σ') (hcl : Cl (drp (TT ts n0) σ) → clB (drp (TT ts n0) σ) (W k) = true) (hb : Cl (drp (TT ts n0) σ)) (hf : ∀ n ∈ c.fm, EV.upd (drp (TT ts n0) σ) (W k) (.l n) = some (.l true) ∧ EV.upd (drp (TT ts n0) σ) (W k) (.b n) = some (.b .df)) :
    KX c (Exit.then (Later c (RS σ ts n0 W) μ j) Q .normal) σ' sup :=
  ⟨⟨fun e a w hR => ⟨k, hlt, e, Real.less hR (SubS.of hW hF) (Cl.updB hb (hcl hb)) hf⟩⟩⟩
theorem isLater {ι : Type} {S : ι → Sf} {μ : ι → Nat} {j : ι} (h : KX c (Exit.then (Later c S μ j) Q .normal) σ sup) : KX c (Exit.then (Later c S μ j) Q .normal) σ sup := h
/-- A loop: with the closedness of what is kept at hand in each round. -/
theorem eLoopC {ι : Type} {x : Code} (ts : List Nat) (n0 : Nat) (W : ι → Ws) (μ : ι → Nat) (j : ι) (h0 : subW σ (W j)) (hN : ClD ts n0 σ) (hc : ∀ j, clB (drp (TT ts n0) σ) (W j) = true) (hf : ∀ j, ∀ n ∈ c.fm, EV.upd (drp (TT ts n0) σ) (W j) (.l n) = some (.l true) ∧ EV.upd (drp (TT ts n0) σ) (W j) (.b n) = some (.b .df))
    (round : Cl (drp (TT ts n0) σ) → ∀ j, CX c F nn x (Exit.then (Later c (RS σ ts n0 W) μ j) Q) (EV.upd (drp (TT ts n0) σ) (W j)) sup) : CX c F nn (.loop x) Q σ sup :=
  ⟨⟨fun e a w hR => (eLoop (sup := sup) ts n0 W μ j h0 hN hc hf (round (hN.go hR.W.cl))).go.go e a w hR⟩⟩

theorem eLoopD {ι : Type} {x : Code} (ts : List Nat) (n0 : Nat) (W : ι → Ws) (μ : ι → Nat) (j : ι) (h0 : subW σ (W j))
    (round : Cl (drp (TT ts n0) σ) → ∀ j, CX c F nn x (Exit.then (Later c (RS σ ts n0 W) μ j) Q) (EV.upd (drp (TT ts n0) σ) (W j)) sup) (hN : autoParam (ClD ts n0 σ) aCLD._auto_1) (hc : ∀ j, clB (drp (TT ts n0) σ) (W j) = true := by exact fun _ => rfl) (hf : autoParam (∀ j, ∀ n ∈ c.fm, EV.upd (drp (TT ts n0) σ) (W j) (.l n) = some (.l true) ∧ EV.upd (drp (TT ts n0) σ) (W j) (.b n) = some (.b .df)) aFMT._auto_1) : CX c F nn (.loop x) Q σ sup := eLoopC ts n0 W μ j h0 hN hc hf round
theorem eLaterD {ι : Type} {σ' : Sf} {ts : List Nat} {n0 : Nat} {W : ι → Ws} {μ : ι → Nat} {j : ι} (k : ι) (hlt : μ k < μ j) (hW : subW σ' (W k)) (hb : Cl (drp (TT ts n0) σ)) (hF : autoParam (Frm (drp (TT ts n0) σ) (W k) σ') aFRM._auto_1) (hcl : Cl (drp (TT ts n0) σ) → clB (drp (TT ts n0) σ) (W k) = true := by exact fun _ => rfl) (hf : autoParam (∀ n ∈ c.fm, EV.upd (drp (TT ts n0) σ) (W k) (.l n) = some (.l true) ∧ EV.upd (drp (TT ts n0) σ) (W k) (.b n) = some (.b .df)) aFMT._auto_1) :
    KX c (Exit.then (Later c (RS σ ts n0 W) μ j) Q .normal) σ' sup := eLater k hlt hW hF hcl hb hf

/-! ### Where a function begins and ends -/
def argW : Nat → List V → Ws
  | _, [] => []
  | i, v :: r => (.t i, .v v) :: argW (i + 1) r
theorem lookW_arg : ∀ (l : List V) (i : Nat) (q : Key), lookW (argW i l) q = match q with
    | .t j => if i ≤ j then (l[j - i]?).map KV.v else none
    | _ => none
  | [], i, q => by cases q <;> simp [argW, lookW]
  | x :: r, i, q => by
    simp only [argW, lookW, lookW_arg r (i + 1) q]
    cases q with
    | b m => simp [Key.beq]
    | l m => simp [Key.beq]
    | t j =>
      by_cases h : i = j
      · subst h; simp [Key.beq]
      · have hne : Nat.beq i j = false := by
          cases hb : Nat.beq i j with
          | true => exact absurd (Nat.eq_of_beq_eq_true hb) h
          | false => rfl
        simp only [Key.beq, hne, cond_false]
        by_cases hle : i ≤ j
        · rw [if_pos hle, if_pos (by omega), show j - i = j - (i + 1) + 1 from by omega]; simp
        · rw [if_neg hle, if_neg (by omega)]
theorem argS_eq (vs : List V) (h : Sf) (ht : ∀ i, h (.t i) = none) : argS vs h = upd h (argW 0 vs) := by
  funext q
  simp only [upd, lookW_arg]
  cases q with
  | t j => simp only [argS, Nat.zero_le, if_true, Nat.sub_zero, ht, Option.or_none]
  | b n => simp [argS]
  | l n => simp [argS]
def env0 : Env := ⟨fun _ => 0, fun _ => 0, fun _ => 0⟩
theorem calls_plainC {P : Program} {f : FuncId} {vs : List V} {L : List Value} {w : World} {R : Ending → World → Prop} {v : V} {h' : Sf} (hct : CT P f vs emp 0 1000000 v h') (hv : PlVs vs L) (h1 : vs.all oneV = true) (hR : ∀ u w' e' (c : Ctx), c.w0 = w → (∀ k, ¬ c.tch k) → RealW c h' e' w' → OkV h' e' v u → R (.returned u) w') : Calls P f L.toArray w R := by
  have := hct ⟨P, w, fun _ => False, fun _ => False, env0, 0, []⟩ env0 w L rfl (fun _ _ _ h => h)
    ⟨fun n b h => (by cases h), fun n n' b b' h => (by cases h), fun n b h => (by cases h), ⟨fun q x h => (by cases h), fun n h => absurd rfl h⟩, fun _ h => h.elim, rfl, rfl, rfl, Nat.le_refl _, fun _ _ _ => rfl⟩
    (hv.oks h1) (fun v hv' n hn => by rw [hv.names v hv'] at hn; cases hn)
  refine this.mono ?_
  rintro en w' ⟨u, e', rfl, h1, h2, _⟩
  exact hR u w' e' _ rfl (fun _ h => h) h1 h2
theorem eEnter {P : Program} {f : FuncId} {fn : Func} {code : Code} {vs : List V} {L : List Value} {w : World} {R : Ending → World → Prop} {N : Nat} {ws : Ws} (hf : P.funcs[f]? = some fn) (hb : fn.body = some code) (hN : fn.ntmps = N)
    (h : CX ⟨P, w, fun _ => False, GV 0 1000000, env0, N, []⟩ Fence.wide 0 code (bodyPostM Fence.wide 0 P fn R) (upd emp ws) ([10, 20, 30, 40, 50, 60, 70, 80, 90, 100, 110, 120, 130, 140, 150, 160, 170, 180, 190, 200, 210, 220, 230, 240, 250, 260, 270, 280, 290, 300, 310, 320, 330, 340, 350, 360, 370, 380, 390, 400, 410, 420, 430, 440, 450, 460, 470, 480, 490, 500, 510, 520, 530, 540, 550, 560, 570, 580, 590, 600])) (hv : autoParam (PlVs vs L) aPLVS._auto_1) (h1 : autoParam (vs.all oneV = true) aONE._auto_1) (hle : Nat.ble vs.length N = true := by rfl) (hws : autoParam (Is (argW 0 vs) ws) aNRM._auto_1) : Calls P f L.toArray w R := by
  obtain ⟨rfl⟩ := hws
  refine (callsIn_wide (n := 0)).1 (callsIn_of_wp_marks hf hb trivial ?_)
  refine h.go.go env0 _ w ?_
  have hlen : L.length = vs.length := by
    clear h h1 hle
    induction hv with
    | nil => rfl
    | cons _ _ ih => simp [ih]
  have hle' := Nat.le_of_ble_eq_true hle
  have hb0 : ∀ n, upd emp (argW 0 vs) (.b n) = none := fun n => by simp [upd, lookW_arg, emp]
  have hl0 : ∀ n, upd emp (argW 0 vs) (.l n) = none := fun n => by simp [upd, lookW_arg, emp]
  have ht0 : ∀ i, upd emp (argW 0 vs) (.t i) = (vs[i]?).map KV.v := fun i => by simp [upd, lookW_arg, emp]
  have hok : OkVs (upd emp (argW 0 vs)) env0 vs L := hv.oks h1
  refine ⟨⟨fun n b h => by (rw [hl0] at h; cases h), fun n n' b b' h => by (rw [hl0] at h; cases h), fun n b h => by (rw [hl0] at h; cases h), ⟨fun q x hx n hn => ?_, fun n h => absurd (hb0 n) h⟩, fun _ _ => .rfl, rfl, rfl, rfl, Nat.le_refl _, fun _ _ _ => rfl⟩, rfl, (fun n hn => by cases hn), (by simp; omega), fun i v hx => ?_⟩
  · cases q with
    | t i =>
      rw [ht0] at hx
      simp only [Option.map_eq_some_iff] at hx
      obtain ⟨v, hv', rfl⟩ := hx
      have : v.names = [] := hv.names v (List.mem_of_getElem? hv')
      simp only [KV.names, this] at hn; cases hn
    | b k => rw [hb0] at hx; cases hx
    | l k => rw [hl0] at hx; cases hx
  · rw [ht0] at hx
    simp only [Option.map_eq_some_iff] at hx
    obtain ⟨v', hv', he⟩ := hx
    cases he
    obtain ⟨u, g1, g2⟩ := hok.get hv'
    have hlt : i < L.length := (List.getElem?_eq_some_iff.1 g1).1
    refine ⟨u, ?_, g2⟩
    rw [Array.getElem?_append_left (by simpa using hlt)]
    simpa using g1
theorem RealW.below {gv : Nat → Prop} {P : Program} {ini : Env} {N : Nat} {fm : List Nat} {w0 : World} (h : RealW ⟨P, w0, fun _ => False, gv, ini, N, fm⟩ s e w) : Below w0.heap.size w0 w := ⟨h.os, h.tape, h.output, h.size, fun k hk => h.old k hk (fun h => h)⟩
/-- The end, with a plain answer. -/
theorem eLeaveP {P : Program} {fn : Func} {w0 : World} {gv : Nat → Prop} {ini : Env} {N : Nat} {R : Ending → World → Prop} {vs : List V} {v : V} {X : Value} {x : Exit} {fm : List Nat} 
    (h : ∀ w, Below w0.heap.size w0 w → R (.returned X) w) (hx : x = .ret ∨ x = .normal := by first | exact .inl rfl | exact .inr rfl) (hr : resL P (killM σ fm) fn.results.toList = some vs := by rfl) (hv : tupC vs = some v := by rfl) (hp : autoParam (PlV v X) aPLV._auto_1) (hnd : autoParam (fm.Nodup) aNDP._auto_1) : KX ⟨P, w0, fun _ => False, gv, ini, N, fm⟩ (bodyPostM Fence.wide nn P fn R x) σ sup :=
  ⟨KW_leave hx rfl hnd hr hv fun e u w hW hu _ => by rw [hp.uniq hu]; exact h w (RealW.below hW)⟩
end
/-- On to the next text. -/
theorem nm {p q : Prop} (h : q) (hn : q → p := by (intro h; (repeat (first | refine EW.eSeq ?_ | with_reducible refine EW.eThen ?_ | refine EW.eBlock ?_ | refine EW.eSkip ?_ | refine EW.eRet ?_ | refine EW.eExit ?_ | refine EW.eScope ?_ | refine EW.eLabel ?_ | with_reducible refine EW.eNext ?_ | with_reducible refine EW.eRound ?_ | with_reducible refine EW.eBlkN ?_ | with_reducible refine EW.eBlkR ?_ | with_reducible refine EW.eBlkX ?_ | with_reducible refine EW.eBlkP ?_ | with_reducible refine EW.eThenRet ?_ | with_reducible refine EW.eThenExit ?_ | with_reducible refine EW.eNoGotoR ?_ | with_reducible refine EW.eNoGotoN ?_ | with_reducible refine EW.eNoGotoX ?_)); exact h)) : p := hn h
end Go.Proofs.Ytbjogekhedglgaa.EW
