/- A law for a region that draws its order: its head reads and calls (what a callee lays is new), its tail has one order. No program in sight. -/
import Derived.Test.YthclhmdgfekaeaaLib
namespace Go.Proofs.Ythclhmdgfekaeaa
open Go.RowKit

theorem below_drewN {B : Nat} {W w2 : World} (n : Nat) (h : Below B W w2) : Below B W (w2.drewN n) := ⟨h.os, h.tape, h.output, h.size, h.block⟩
theorem below_drew {B : Nat} {W w2 : World} (h : Below B W w2) : Below B W w2.drew := ⟨h.os, h.tape, h.output, h.size, h.block⟩
theorem below_setCell {B : Nat} {W w2 : World} {p : Addr} (h : Below B W w2) (hp : B ≤ p.block) (u : Value) : Below B W (w2.setCell p u) :=
  ⟨h.os, h.tape, h.output, by simpa using h.size, fun k hk => (Below.heap_setCell w2 p u k (by omega)).trans (h.block k hk)⟩
/-- A world that came of W by what is new alone. -/
def Since (W : World) : Type := {w : World // Below W.heap.size W w}
def Since.w {W : World} (s : Since W) : World := s.1
theorem Since.below {W : World} (s : Since W) : Below W.heap.size W s.w := s.2
theorem Since.here {W : World} : Nonempty (Since W) := ⟨⟨W, Below.refl _ W⟩⟩
theorem Since.cell {W : World} (s : Since W) (b o : Nat) (h : b < W.heap.size) : s.w.cell? ⟨b, o, none⟩ = W.cell? ⟨b, o, none⟩ := s.below.cell (p := ⟨b, o, none⟩) h
theorem Since.frozen {W : World} (s : Since W) (b o : Nat) (h : b < W.heap.size) : s.w.frozen? ⟨b, o, none⟩ = W.frozen? ⟨b, o, none⟩ := s.below.frozen (p := ⟨b, o, none⟩) h
/-- Behind a call that leaves what lay. -/
theorem Since.on {W : World} (s : Since W) {w2 : World} (h : Below s.w.heap.size s.w w2) : ∃ s' : Since W, w2 = s'.w := ⟨⟨w2, s.below.trans (h.mono s.below.size)⟩, rfl⟩
theorem Since.drewN {W : World} (s : Since W) (n : Nat) : ∃ s' : Since W, s.w.drewN n = s'.w := ⟨⟨s.w.drewN n, ⟨s.below.os, s.below.tape, s.below.output, s.below.size, s.below.block⟩⟩, rfl⟩
theorem Since.same {W : World} (s : Since W) : ∃ s' : Since W, s.w = s'.w := ⟨s, rfl⟩

/-- A known block, in all worlds that come of it. -/
theorem Blk.since {W : World} {b : Nat} {t : TypeId} {cs : Array Value} (h : Blk W b t cs) (s : Since W.drew) (i : Nat) : s.w.cell? ⟨b, i, none⟩ = cs[i]? := (h.drew.below s.below h.lt).cell i
section
variable {P : Program} {ops : Array Oper} {md : Region.Mode} {C : World → Prop}

def wpAnyT (P : Program) (md : Region.Mode) (ops : Array Oper) (C : World → Prop) (n : Nat) (L : Array Bool → Act → Prop) : Nat → Array Bool → Act → Prop
  | 0, listed, a => L listed a
  | f + 1, listed, a =>
    Region.ready md ops listed ≠ [] ∧ ∀ i ∈ Region.ready md ops listed, i < n ∧ qOp P ops C i (wpAnyT P md ops C n L f (listed.setIfInBounds i true)) a

theorem wpAny_of_qhead {n g : Nat} {L : Array Bool → Act → Prop} {Q' : Exit → Act → World → Prop} (hL : ∀ listed a w, C w → L listed a → wpAny P md ops Q' g listed a w) :
    ∀ (f : Nat) (listed : Array Bool) (a : Act) (w : World), C w → wpAnyT P md ops C n L f listed a → wpAny P md ops Q' (f + g) listed a w
  | 0, listed, a, w, hC, h => by rw [Nat.zero_add]; exact hL _ _ _ hC h
  | f + 1, listed, a, w, hC, h => by
    rw [show f + 1 + g = (f + g) + 1 by omega]
    exact ⟨fun h0 => absurd h0 h.1, fun i hi => wpOp_of_qOp hC (fun a' w' hC' h' => wpAny_of_qhead hL f _ a' w' hC' h') (h.2 i hi).2⟩

theorem wpAnyT_first {n i : Nat} {oi : Oper} {v : Value} {L : Array Bool → Act → Prop} (hi : ops[i]? = some oi) (hsel : ∀ (j : Nat) (o : Oper) cs b, ops[j]? = some o → o.op ≠ .select cs b)
    (hs : Region.sinkB md ops n = true) (hc : Region.chainB md ops n = true) (hn : n < ops.size) (hin : i < n)
    (hdone : ∀ listed a, L listed a → ∀ j ∈ Region.ready md ops listed, n ≤ j) :
    ∀ (f : Nat) (listed : Array Bool) (a : Act), HeadInv md ops n listed →
      (∀ j oj, ops[j]? = some oj → j ≠ i → listed.getD j true = false → (∀ e ∈ oj.after, Region.binds md e = true → e.on ≠ i) → oi.apart ops oj = true) →
      i ∈ Region.ready md ops listed → YieldsIn P ops C oi v a →
      wpAnyT P md ops C n L f (listed.setIfInBounds i true) (a.put oi.dst v) → wpAnyT P md ops C n L (f + 1) listed a := by
  intro f
  induction f with
  | zero =>
    intro listed a inv _ hr hy H
    have hun := (mem_ready.1 hr).1
    refine ⟨fun h => (by rw [h] at hr; cases hr), fun j hj => ?_⟩
    have hjn : j < n := by
      rcases Nat.lt_or_ge j n with h | h
      · exact h
      · exact absurd hj (tail_waits hs hc hn inv _ i rfl hin hun j h)
    refine ⟨hjn, ?_⟩
    by_cases hji : j = i
    · subst hji; exact hy.qOp hi H
    · have := hdone _ _ H j (ready_mono hj hji)
      omega
  | succ f ih =>
    intro listed a inv hfree hr hy H
    have hun := (mem_ready.1 hr).1
    refine ⟨fun h => (by rw [h] at hr; cases hr), fun j hj => ?_⟩
    have hjn : j < n := by
      rcases Nat.lt_or_ge j n with h | h
      · exact h
      · exact absurd hj (tail_waits hs hc hn inv _ i rfl hin hun j h)
    refine ⟨hjn, ?_⟩
    by_cases hji : j = i
    · subst hji; exact hy.qOp hi H
    · have h1 := (H.2 j (ready_mono hj hji)).2
      obtain ⟨hjun, oj, hoj, hall⟩ := mem_ready.1 hj
      have hnot : ∀ e ∈ oj.after, Region.binds md e = true → e.on ≠ i := fun e he hb heq => by
        have h1 := hall e he hb
        rw [heq, getD_both hun] at h1
        cases h1
      have h2 := qOp_put hoj (hfree j oj hoj hji hjun hnot) (fun cs b => hsel i oi cs b hi) (fun cs b => hsel j oj cs b hoj) hy h1
      have hfree' : ∀ k ok, ops[k]? = some ok → k ≠ i → (listed.setIfInBounds j true).getD k true = false →
          (∀ e ∈ ok.after, Region.binds md e = true → e.on ≠ i) → oi.apart ops ok = true := fun k ok hk hki hun hno => by
        refine hfree k ok hk hki ?_ hno
        by_cases hjk : j = k
        · subst hjk; exact hjun
        · rw [getD_set_ne true hjk] at hun; exact hun
      refine qOp_mono (fun a' h3 => ih (listed.setIfInBounds j true) a' (inv.set hj hjn) hfree' (ready_mono hr (Ne.symm hji)) h3.1 ?_) h2
      rw [Array.setIfInBounds_comm _ _ hji]
      exact h3.2

theorem wpAnyT_lex {n g : Nat} {Lq : Act → Prop} (hsel : Region.noSelect ops = true) (hs : Region.sinkB md ops n = true) (hc : Region.chainB md ops n = true) (hn : n < ops.size) :
    ∀ (l : List Oper) (k : Nat) (listed : Array Bool) (a : Act), (∀ j, j < l.length → l[j]? = ops[k + j]?) → k + l.length = n → HeadInv md ops n listed →
    Region.lexHead md ops g l.length k listed = true → wpQuiet P ops C Lq l a →
    wpAnyT P md ops C n (fun listed' a' => Region.seqB md ops g n listed' = true ∧ Lq a') l.length listed a
  | [], k, listed, a, _, hk, _, hB, h => by
    have : k = n := by simpa using hk
    subst this
    exact ⟨by simpa [Region.lexHead] using hB, h⟩
  | o :: l, k, listed, a, hl, hk, inv, hB, h => by
    have h0 : ops[k]? = some o := by simpa using (hl 0 (by simp)).symm
    simp only [List.length_cons, Region.lexHead, Bool.and_eq_true] at hB
    obtain ⟨⟨hr, hf⟩, hB'⟩ := hB
    have hkn : k < n := by simp only [List.length_cons] at hk; omega
    have hr' : k ∈ Region.ready md ops listed := by simpa using hr
    have hst : qOp P ops C k (wpQuiet P ops C Lq l) a := by unfold qOp; simp only [h0]; exact h
    obtain ⟨v, hy, hK⟩ := yieldsIn_of_qOp h0 hst
    exact wpAnyT_first h0 (Region.noSelect_spec hsel) hs hc hn hkn (fun listed' a' hL => seqB_ready hL.1) l.length listed a inv (Region.free_spec h0 hf) hr' hy
      (wpAnyT_lex hsel hs hc hn l (k + 1) _ _ (fun j hj => by have := hl (j + 1) (by simp; omega); simpa [Nat.add_assoc, Nat.add_comm 1 j] using this) (by simp only [List.length_cons] at hk; omega) (inv.set hr' hkn) hB' hK)

/-- The order of a region with such a tail. -/
theorem wpAny_quiet_tail {Q : Exit → Act → World → Prop} {a : Act} {w : World} {l : List Oper} (n : Nat) (hB : Region.lexTailB .any l.toArray n = true) (hC : C w)
    (h : wpQuiet P l.toArray C (fun a' => ∀ w', C w' → wpList P l.toArray Q (l.drop n) a' w') (l.take n) a) : wpAny P .any l.toArray Q l.toArray.size (Array.replicate l.toArray.size false) a w := by
  simp only [Region.lexTailB, Bool.and_eq_true, decide_eq_true_eq] at hB
  obtain ⟨⟨⟨⟨hsel, hn⟩, hs⟩, hc⟩, hlex⟩ := hB
  have hn' : n < l.length := by simpa using hn
  have htl : (l.take n).length = n := by simp; omega
  have hdl : (l.drop n).length = l.toArray.size - n := by simp
  have inv0 : HeadInv .any l.toArray n (Array.replicate l.toArray.size false) :=
    ⟨by simp, fun j oj _ hl => (by rw [getD_replicate_false] at hl; cases hl), fun t _ ht => getD_in (by simpa using ht) (getD_replicate_false _ _)⟩
  have H := wpAnyT_lex (md := .any) (g := l.toArray.size - n) hsel hs hc hn (l.take n) 0 _ a (fun j hj => by
    have hj' : j < n := by rw [htl] at hj; exact hj
    simp [hj']) (by simpa using htl) inv0 (by rw [htl]; exact hlex) h
  have := wpAny_of_qhead (Q' := Q) (g := l.toArray.size - n) (fun listed a' w' hC' hL => by
    have := wpAny_of_seq (md := .any) (Q' := Q) (l.drop n) n listed a' w' (fun j => by simp [List.getElem?_drop]) (by rw [hdl]; exact hL.1) (hL.2 w' hC')
    rwa [hdl] at this) _ _ _ w hC H
  rw [htl, show n + (l.toArray.size - n) = l.toArray.size by omega] at this
  exact this
/-- A region whose head (n operations) reads and calls, in worlds that came of the first by what is new alone; and whose tail has one order. -/
theorem region_head {id : Nat} {Q : Exit → Act → World → Prop} {a : Act} {w : World} {l : List Oper} (n : Nat) (hm : P.follows .mixedOrders = true) (hB : Region.lexTailB .any l.toArray n = true)
    (h : Nonempty (Since w.drew) → wpQuiet P l.toArray (fun w' => ∃ s : Since w.drew, w' = s.w) (fun a' => ∀ w', (∃ s : Since w.drew, w' = s.w) → wpList P l.toArray Q (l.drop n) a' w') (l.take n) a) : (Code.region id l.toArray true).wp P Q a w :=
  wp_region_any hm (wpAny_quiet_tail n hB ⟨⟨w.drew, Below.refl _ _⟩, rfl⟩ (h Since.here))
/-- .. whose operations all read and call. -/
theorem region_calls {id : Nat} {Q : Exit → Act → World → Prop} {a : Act} {w : World} {l : List Oper} (hm : P.follows .mixedOrders = true) (hB : Region.lexB .any l.toArray = true)
    (h : Nonempty (Since w.drew) → wpQuiet P l.toArray (fun w' => ∃ s : Since w.drew, w' = s.w) (fun a' => ∀ w', (∃ s : Since w.drew, w' = s.w) → Q .normal a' w') l a) : (Code.region id l.toArray true).wp P Q a w :=
  wp_region_quiet (C := fun w' => ∃ s : Since w.drew, w' = s.w) hm hB ⟨⟨w.drew, Below.refl _ _⟩, rfl⟩ (by simpa using h Since.here)
/-- Behind the head. -/
theorem since_all {W : World} {p : World → Prop} (h : ∀ w', Below W.heap.size W w' → p w') : ∀ w', (∃ s : Since W, w' = s.w) → p w' := by
  rintro w' ⟨s, rfl⟩; exact h _ s.below
end

/-! ### A region whose head reads and calls, and whose tail lays a variable: the tail may begin ahead of the head's end -/
section
variable {P : Program} {ops : Array Oper} {Q : Exit → Act → World → Prop} {md : Region.Mode} {W0 : World}

/-- The worlds that an operation of the head may meet: what came of W0 by what is new alone (an early one), or any (a late one). -/
def Meets (f : Bool) (W0 : World) : Type := {w : World // f = true → Below W0.heap.size W0 w}
def Meets.w {f : Bool} {W0 : World} (s : Meets f W0) : World := s.1
theorem Meets.below {W0 : World} (s : Meets true W0) : Below W0.heap.size W0 s.w := s.2 rfl
instance Meets.here {f : Bool} {W0 : World} : Nonempty (Meets f W0) := ⟨⟨W0, fun _ => Below.refl _ W0⟩⟩
theorem Meets.cell {W : World} (s : Meets true W) (b o : Nat) (h : b < W.heap.size) : s.w.cell? ⟨b, o, none⟩ = W.cell? ⟨b, o, none⟩ := s.below.cell (p := ⟨b, o, none⟩) h
theorem Blk.meets {W : World} {b : Nat} {t : TypeId} {cs : Array Value} (h : Blk W b t cs) (s : Meets true W.drew) (i : Nat) : s.w.cell? ⟨b, i, none⟩ = cs[i]? := (h.drew.below s.below h.lt).cell i

def quietR (P : Program) (W0 : World) (f : Bool) (o : Oper) (a : Act) (K : Act → Prop) : Prop := ∃ v, (∀ s : Meets f W0, o.quietAt P a (fun w'' => Below s.w.heap.size s.w w'') s.w v) ∧ K (a.put o.dst v)
def wpQuietR (P : Program) (ops : Array Oper) (W0 : World) (Z : Act → Prop) : List Bool → List Oper → Act → Prop
  | _, [], a => Z a
  | [], _, _ => False
  | f :: fs, o :: rest, a => if Region.wanted o (yielded ops a.tmps) then quietR P W0 f o a (wpQuietR P ops W0 Z fs rest) else wpQuietR P ops W0 Z fs rest (a.put o.dst undef)
theorem wpQuietR_step {Z : Act → Prop} {a : Act} {f : Bool} {fs : List Bool} {o : Oper} {rest : List Oper}
    (h : ∀ K : Act → Prop, (∀ a, wpQuietR P ops W0 Z fs rest a → K a) → if Region.wanted o (yielded ops a.tmps) then quietR P W0 f o a K else K (a.put o.dst undef)) : wpQuietR P ops W0 Z (f :: fs) (o :: rest) a :=
  h _ (fun _ h => h)
theorem wpQuietR_nil {Z : Act → Prop} {fs : List Bool} {a : Act} (h : Z a) : wpQuietR P ops W0 Z fs [] a := by cases fs <;> exact h

def YieldsR (P : Program) (ops : Array Oper) (W0 : World) (f : Bool) (o : Oper) (v : Value) (a : Act) : Prop :=
  (Region.wanted o (yielded ops a.tmps) = true ∧ ∀ s : Meets f W0, o.quietAt P a (fun w'' => Below s.w.heap.size s.w w'') s.w v) ∨
  (Region.wanted o (yielded ops a.tmps) = false ∧ v = undef)

theorem YieldsR.wpOp {f : Bool} {i : Nat} {o : Oper} {v : Value} {a : Act} (hi : ops[i]? = some o) (hy : YieldsR P ops W0 f o v a)
    {K : Act → World → Prop} {w : World} (hS : f = true → Below W0.heap.size W0 w) (h : ∀ w', Below w.heap.size w w' → K (a.put o.dst v) w') : wpOp P ops Q i K a w := by
  unfold Go.wpOp
  simp only [hi]
  rcases hy with ⟨hw, hv⟩ | ⟨hw, rfl⟩
  · simp only [hw, if_true]
    refine .inl ?_
    have h3 := hv ⟨w, hS⟩
    rw [show Meets.w (⟨w, hS⟩ : Meets f W0) = w from rfl] at h3
    unfold Oper.quietAt at h3
    unfold Oper.wp
    generalize (execOp a.eval o).run P w = r at *
    cases r with
    | ok n w' =>
      cases n <;> simp only [Oper.quietUpon] at h3 <;> simp only [Oper.upon]
      case value u =>
        obtain ⟨e1, e2⟩ := h3
        rw [e1, e2]
        exact h _ (Below.refl _ _)
      case skip =>
        obtain ⟨e1, e2⟩ := h3
        rw [e1, ← e2]
        exact h _ (Below.refl _ _)
      case enter f args =>
        obtain ⟨e1, hc⟩ := h3
        rw [e1]
        exact hc.mono fun e w'' ⟨he, hw''⟩ => by subst he; exact h _ hw''
    | halt x w' => simp only [Oper.quietUpon] at h3
  · simp only [hw, Bool.false_eq_true, if_false]; exact h _ (Below.refl _ _)

theorem YieldsR.of_same {f : Bool} {o : Oper} {v : Value} {a a' : Act} (hy : YieldsR P ops W0 f o v a) (he : execOp a'.eval o = execOp a.eval o)
    (hw : Region.wanted o (yielded ops a'.tmps) = Region.wanted o (yielded ops a.tmps)) : YieldsR P ops W0 f o v a' := by
  unfold YieldsR Oper.quietAt at *
  rw [he, hw]
  exact hy

theorem wpOp_putR {f : Bool} {j : Nat} {oi oj : Oper} {v : Value} (hj : ops[j]? = some oj) (hap : oi.apart ops oj = true)
    (hsi : ∀ cs b, oi.op ≠ .select cs b) (hsj : ∀ cs b, oj.op ≠ .select cs b)
    (hQ : ∀ c a w, Q (.panic c) (a.put oi.dst v) w → Q (.panic c) a w) {K : Act → World → Prop} {a : Act} {w : World}
    (hy : YieldsR P ops W0 f oi v a) (h : wpOp P ops Q j K (a.put oi.dst v) w) :
    wpOp P ops Q j (fun a' w' => YieldsR P ops W0 f oi v a' ∧ K (a'.put oi.dst v) w') a w := by
  obtain ⟨h1, h2, h3⟩ := Oper.apart_spec hap
  have keep : ∀ (a : Act), YieldsR P ops W0 f oi v a → ∀ u, YieldsR P ops W0 f oi v (a.put oj.dst u) := fun a hy u =>
    hy.of_same (execOp_put oi hsi a oj.dst u h3) (wanted_put oi a oj.dst u h3)
  have keepD : ∀ d, YieldsR P ops W0 f oi v { a with defers := d :: a.defers } := fun d => hy.of_same rfl rfl
  unfold wpOp at *
  simp only [hj] at *
  rw [wanted_put oj a oi.dst v h1] at h
  split
  · rename_i hw
    simp only [hw, if_true] at h
    rcases h with h | ⟨hasks, hlets⟩
    case inr => exact .inr ⟨by unfold Oper.asks at *; rw [execOp_put oj hsj a oi.dst v h1] at hasks; exact hasks, hlets⟩
    refine .inl ?_
    unfold Oper.wp at *
    rw [execOp_put oj hsj a oi.dst v h1] at h
    generalize (execOp a.eval oj).run P w = r at *
    cases r with
    | ok n w' =>
      cases n <;> simp only [Oper.upon] at h ⊢
      case value u => exact ⟨keep a hy u, by rw [← Act.put_comm a v u h2]; exact h⟩
      case skip => exact ⟨keep a hy _, by rw [← Act.put_comm a v undef h2]; exact h⟩
      case defer d =>
        refine ⟨keep _ (keepD d) _, ?_⟩
        rw [← Act.put_comm _ v undef h2, ← Act.put_defers]
        exact h
      case enter f args =>
        refine Calls.mono h fun e w'' he => ?_
        cases e with
        | returned u => exact ⟨keep a hy u, by rw [← Act.put_comm a v u h2]; exact he⟩
        | panicked c => exact hQ _ _ _ he
        | outgrown => exact he
      case row row args => exact Rows.mono h fun u w'' he => ⟨keep a hy u, by rw [← Act.put_comm a v u h2]; exact he⟩
    | halt x w' =>
      cases x <;> simp only [Oper.upon] at h ⊢
      case panic u => exact hQ _ _ _ h
  · rename_i hw
    simp only [hw] at h
    exact ⟨keep a hy _, by rw [← Act.put_comm a v undef h2]; exact h⟩

/-- The store into a variable that was there stands at st; what it waits for is early. -/
def Still0 (st : Nat) (W0 : World) (listed : Array Bool) (w : World) : Prop := listed.getD st false = false → Below W0.heap.size W0 w
def wpAnyR (P : Program) (md : Region.Mode) (ops : Array Oper) (Q : Exit → Act → World → Prop) (st : Nat) (W0 : World) : Nat → Array Bool → Act → World → Prop
  | 0, listed, a, w => ∀ w', Below w.heap.size w w' → Region.ready md ops listed = [] ∧ Q .normal a w'
  | fuel + 1, listed, a, w => ∀ w', Below w.heap.size w w' →
    (Region.ready md ops listed = [] → Q .normal a w') ∧
    ∀ i ∈ Region.ready md ops listed, wpOp P ops Q i (fun a' w'' => Still0 st W0 (listed.setIfInBounds i true) w'' ∧ wpAnyR P md ops Q st W0 fuel (listed.setIfInBounds i true) a' w'') a w'

theorem wpAnyR_down {st : Nat} : ∀ {fuel : Nat} {listed : Array Bool} {a : Act} {w w1 : World}, Below w.heap.size w w1 → wpAnyR P md ops Q st W0 fuel listed a w → wpAnyR P md ops Q st W0 fuel listed a w1
  | 0, _, _, _, _, hb, h => fun w' hw' => h w' (hb.trans (hw'.mono hb.size))
  | _ + 1, _, _, _, _, hb, h => fun w' hw' => h w' (hb.trans (hw'.mono hb.size))

theorem wpAny_of_R {st : Nat} : ∀ (fuel : Nat) (listed : Array Bool) (a : Act) (w : World), wpAnyR P md ops Q st W0 fuel listed a w → wpAny P md ops Q fuel listed a w
  | 0, _, _, _, h => h _ (Below.refl _ _)
  | fuel + 1, _, _, _, h => ⟨(h _ (Below.refl _ _)).1, fun i hi => wpOp_mono (fun a' w' h' => wpAny_of_R fuel _ a' w' h'.2) ((h _ (Below.refl _ _)).2 i hi)⟩

/-- What the store waits for is through when the store is. -/
def Closed0 (md : Region.Mode) (ops : Array Oper) (st : Nat) (listed : Array Bool) : Prop := listed.getD st false = true → ∀ k, Region.waitsFor md ops st k = true → listed.getD k false = true
theorem Closed0.set {st j : Nat} {listed : Array Bool} (h : Closed0 md ops st listed) (hj : j ∈ Region.ready md ops listed) : Closed0 md ops st (listed.setIfInBounds j true) := by
  intro hl k hk
  by_cases hij : j = st
  · subst hij
    obtain ⟨oj, hoj, e, he, hb, hon⟩ := Region.waitsFor_spec hk
    obtain ⟨_, oi, hoi, hall⟩ := mem_ready.1 hj
    have : oj = oi := Option.some.inj (hoj.symm.trans hoi)
    subst this
    have := hall e he hb
    rw [hon] at this
    exact getD_set_true this
  · rw [getD_set_ne false hij] at hl
    exact getD_set_true (h hl k hk)

theorem wpAnyR_first {f : Bool} {st i : Nat} {oi : Oper} {v : Value} (hi : ops[i]? = some oi) (hsel : ∀ (j : Nat) (o : Oper) cs b, ops[j]? = some o → o.op ≠ .select cs b)
    (hQ : ∀ c a w, Q (.panic c) (a.put oi.dst v) w → Q (.panic c) a w) (hne : i ≠ st) (hf : f = true → st < ops.size → Region.waitsFor md ops st i = true) :
    ∀ (fuel : Nat) (listed : Array Bool) (a : Act) (w : World), listed.size = ops.size → Closed0 md ops st listed →
      (∀ j oj, ops[j]? = some oj → j ≠ i → listed.getD j true = false → (∀ e ∈ oj.after, Region.binds md e = true → e.on ≠ i) → oi.apart ops oj = true) →
      i ∈ Region.ready md ops listed → YieldsR P ops W0 f oi v a → Still0 st W0 listed w →
      wpAnyR P md ops Q st W0 fuel (listed.setIfInBounds i true) (a.put oi.dst v) w → wpAnyR P md ops Q st W0 (fuel + 1) listed a w := by
  intro fuel
  -- the world that operation i meets, and leaves
  have here : ∀ (listed : Array Bool) (w w' : World), listed.size = ops.size → Closed0 md ops st listed → i ∈ Region.ready md ops listed → Still0 st W0 listed w → Below w.heap.size w w' →
      (f = true → Below W0.heap.size W0 w') ∧ ∀ w2, Below w'.heap.size w' w2 → Still0 st W0 (listed.setIfInBounds i true) w2 := fun listed w w' hls hc hr hS hw' => by
    refine ⟨fun hft => ?_, fun w2 hw2 hl => ?_⟩
    · have hun := getD_both (mem_ready.1 hr).1
      have hs : listed.getD st false = false := by
        cases hl : listed.getD st false with
        | false => rfl
        | true =>
          have hlt : st < ops.size := by
            rcases Nat.lt_or_ge st listed.size with h' | h'
            · omega
            · simp [Array.getElem?_eq_none h'] at hl
          have := hc hl i (hf hft hlt); rw [hun] at this; cases this
      have := hS hs
      exact this.trans (hw'.mono this.size)
    · rw [getD_set_ne false hne] at hl
      have h1 := hS hl
      exact (h1.trans (hw'.mono h1.size)).trans (hw2.mono (Nat.le_trans h1.size hw'.size))
  induction fuel with
  | zero =>
    intro listed a w hls hc _ hr hy hS H w' hw'
    obtain ⟨x1, x2⟩ := here listed w w' hls hc hr hS hw'
    refine ⟨fun h => (by rw [h] at hr; cases hr), fun j hj => ?_⟩
    by_cases hji : j = i
    · subst hji; exact hy.wpOp hi x1 fun w2 hw2 => ⟨x2 w2 hw2, wpAnyR_down (hw'.trans (hw2.mono hw'.size)) H⟩
    · have := ready_mono hj hji
      rw [(H w (Below.refl _ _)).1] at this
      cases this
  | succ fuel ih =>
    intro listed a w hls hc hfree hr hy hS H w' hw'
    obtain ⟨x1, x2⟩ := here listed w w' hls hc hr hS hw'
    refine ⟨fun h => (by rw [h] at hr; cases hr), fun j hj => ?_⟩
    by_cases hji : j = i
    · subst hji; exact hy.wpOp hi x1 fun w2 hw2 => ⟨x2 w2 hw2, wpAnyR_down (hw'.trans (hw2.mono hw'.size)) H⟩
    · have h1 := (H w' hw').2 j (ready_mono hj hji)
      obtain ⟨hjun, oj, hoj, hall⟩ := mem_ready.1 hj
      have hnot : ∀ e ∈ oj.after, Region.binds md e = true → e.on ≠ i := fun e he hb heq => by
        have h1 := hall e he hb
        have h0 := (mem_ready.1 hr).1
        rw [heq] at h1
        rcases Nat.lt_or_ge i listed.size with h' | h'
        · simp [h'] at h0 h1; rw [h0] at h1; cases h1
        · simp [Array.getElem?_eq_none h'] at h1
      have h2 := wpOp_putR hoj (hfree j oj hoj hji hjun hnot) (fun cs b => hsel i oi cs b hi) (fun cs b => hsel j oj cs b hoj) hQ hy h1
      have hfree' : ∀ k ok, ops[k]? = some ok → k ≠ i → (listed.setIfInBounds j true).getD k true = false →
          (∀ e ∈ ok.after, Region.binds md e = true → e.on ≠ i) → oi.apart ops ok = true := fun k ok hk hki hun hno => by
        refine hfree k ok hk hki ?_ hno
        by_cases hjk : j = k
        · subst hjk; exact hjun
        · rw [getD_set_ne true hjk] at hun; exact hun
      have hcomm : (listed.setIfInBounds i true).setIfInBounds j true = (listed.setIfInBounds j true).setIfInBounds i true := Array.setIfInBounds_comm _ _ (Ne.symm hji)
      refine wpOp_mono (fun a' w' h3 => ?_) h2
      have hS3 : Still0 st W0 (listed.setIfInBounds j true) w' := fun hl => h3.2.1 (by rw [hcomm, getD_set_ne false hne]; exact hl)
      refine ⟨hS3, ih (listed.setIfInBounds j true) a' w' (by simpa using hls) (hc.set hj) hfree' (ready_mono hr (Ne.symm hji)) h3.1 hS3 ?_⟩
      rw [← hcomm]
      exact h3.2.2

/-- The tail: one operation behind the other; ahead of each a late one of the head may come. -/
def wpListR (P : Program) (ops : Array Oper) (Q : Exit → Act → World → Prop) (W0 : World) : List Bool → List Oper → Act → World → Prop
  | _, [], a, w => ∀ w', Below w.heap.size w w' → Q .normal a w'
  | [], _ :: _, _, _ => False
  | b :: bs, o :: rest, a, w => ∀ w', Below w.heap.size w w' → ∀ K : Act → World → Prop, (∀ a' w'', (b = true → Below W0.heap.size W0 w'') → wpListR P ops Q W0 bs rest a' w'' → K a' w'') → o.guard = none ∧ o.wp P a w' K Q

theorem wpAnyR_seq {st : Nat} : ∀ (bs : List Bool) (l : List Oper) (k : Nat) (listed : Array Bool) (a : Act) (w : World), (∀ j, l[j]? = ops[k + j]?) → listed.size = ops.size →
    (∀ j, j < l.length → bs[j]? = some (decide (k + j < st))) → (st < k → listed.getD st false = true) →
    Region.seqB md ops l.length k listed = true → wpListR P ops Q W0 bs l a w → wpAnyR P md ops Q st W0 l.length listed a w
  | _, [], _, _, _, _, _, _, _, _, hB, h => fun w' hw' => ⟨by simpa [Region.seqB] using hB, (by cases ‹List Bool› <;> exact h w' hw')⟩
  | [], _ :: _, _, _, _, _, _, _, _, _, _, h => h.elim
  | b :: bs, o :: l, k, listed, a, w, hl, hls, hbs, hst, hB, h => fun w' hw' => by
    have h0 : ops[k]? = some o := by simpa using (hl 0).symm
    have hklt : k < ops.size := (Array.getElem?_eq_some_iff.1 h0).1
    have hb0 : b = decide (k < st) := by have := hbs 0 (by simp); simpa using this
    simp only [List.length_cons, Region.seqB, Bool.and_eq_true, decide_eq_true_eq] at hB
    refine ⟨fun h1 => (by rw [hB.1] at h1; cases h1), fun i hi => ?_⟩
    rw [hB.1] at hi
    have hik : i = k := by simpa using hi
    subst hik
    have hst' : st < i + 1 → (listed.setIfInBounds i true).getD st false = true := fun hlt => by
      by_cases he : i = st
      · subst he; simp [hls, hklt]
      · exact getD_set_true (hst (by omega))
    obtain ⟨hg, hw⟩ := h w' hw' (fun a' w'' => Still0 st W0 (listed.setIfInBounds i true) w'' ∧ wpAnyR P md ops Q st W0 l.length (listed.setIfInBounds i true) a' w'')
      (fun a' w'' hS hr => ⟨fun hl' => hS (by
        rw [hb0]; simp only [decide_eq_true_eq]
        rcases Nat.lt_or_ge i st with h' | h'
        · exact h'
        · rw [hst' (by omega)] at hl'; cases hl'), wpAnyR_seq bs l (i + 1) _ a' w'' (fun j => by have := hl (j + 1); simpa [Nat.add_assoc, Nat.add_comm 1 j] using this) (by simpa using hls)
          (fun j hj => by have := hbs (j + 1) (by simp; omega); simpa [Nat.add_assoc, Nat.add_comm 1 j] using this) hst' hB.2 hr⟩)
    unfold wpOp
    simp only [h0]
    rw [if_pos (by simp [Region.wanted, hg])]
    exact .inl hw

theorem wpAnyR_head {g n st : Nat} (hst : n ≤ st) (hsel : Region.noSelect ops = true) (hQ : ∀ (d : Option Tmp) v c a w, Q (.panic c) (Act.put a d v) w → Q (.panic c) a w) {Z : Act → Prop}
    (hZ : ∀ listed a w, listed.size = ops.size → Region.seqB md ops g n listed = true → Still0 st W0 listed w → Z a → wpAnyR P md ops Q st W0 g listed a w) :
    ∀ (fs : List Bool) (l : List Oper) (k : Nat) (listed : Array Bool) (a : Act) (w : World), (∀ j, j < l.length → l[j]? = ops[k + j]?) → k + l.length = n →
    (∀ j, j < l.length → fs[j]? = some true → st < ops.size → Region.waitsFor md ops st (k + j) = true) → listed.size = ops.size → Closed0 md ops st listed →
    Region.lexHead md ops g l.length k listed = true → Still0 st W0 listed w → wpQuietR P ops W0 Z fs l a → wpAnyR P md ops Q st W0 (l.length + g) listed a w
  | fs, [], k, listed, a, w, _, hk, _, hls, hc, hB, hS, h => by
    have : k = n := by simpa using hk
    subst this
    rw [show ([] : List Oper).length + g = g from by simp]
    exact hZ _ _ _ hls (by simpa [Region.lexHead] using hB) hS (by cases fs <;> exact h)
  | [], _ :: _, _, _, _, _, _, _, _, _, _, _, _, h => h.elim
  | f :: fs, o :: l, k, listed, a, w, hl, hk, hfs, hls, hc, hB, hS, h => by
    have h0 : ops[k]? = some o := by simpa using (hl 0 (by simp)).symm
    simp only [List.length_cons, Region.lexHead, Bool.and_eq_true] at hB
    obtain ⟨⟨hr, hf⟩, hB'⟩ := hB
    have hr' : k ∈ Region.ready md ops listed := by simpa using hr
    have hkn : k < n := by simp only [List.length_cons] at hk; omega
    obtain ⟨v, hy, hn⟩ : ∃ v, YieldsR P ops W0 f o v a ∧ wpQuietR P ops W0 Z fs l (a.put o.dst v) := by
      unfold wpQuietR at h
      split at h
      · rename_i hw; obtain ⟨v, h1, h2⟩ := h; exact ⟨v, .inl ⟨hw, h1⟩, h2⟩
      · rename_i hw; exact ⟨undef, .inr ⟨by simpa using hw, rfl⟩, h⟩
    rw [show (o :: l).length + g = (l.length + g) + 1 from by simp; omega]
    refine wpAnyR_first h0 (Region.noSelect_spec hsel) (fun c a w => hQ o.dst v c a w) (by omega) (fun hft hlt => by have := hfs 0 (by simp) (by simpa using hft) hlt; simpa using this) _ listed a w hls hc (Region.free_spec h0 hf) hr' hy hS
      (wpAnyR_head hst hsel hQ hZ fs l (k + 1) _ _ w (fun j hj => by have := hl (j + 1) (by simp; omega); simpa [Nat.add_assoc, Nat.add_comm 1 j] using this) (by simp only [List.length_cons] at hk; omega)
        (fun j hj hj2 hlt => by have := hfs (j + 1) (by simp; omega) (by simpa using hj2) hlt; simpa [Nat.add_assoc, Nat.add_comm 1 j] using this) (by simpa using hls) (hc.set hr') hB' (fun hl' => hS (by rw [getD_set_ne false (by omega)] at hl'; exact hl')) hn)

/-- The checks, by number: the head in order, the tail behind it; a flag 'true' in the head: the store st waits for it; in the tail: it stands ahead of st. -/
def flowB (l : List Oper) (n st : Nat) (fs bs : List Bool) : Bool :=
  Region.noSelect l.toArray && decide (n ≤ l.length) && decide (n ≤ st) && Region.lexHead .any l.toArray (l.length - n) n 0 (Array.replicate l.length false)
  && (List.range n).all (fun j => !(fs[j]? == some true) || decide (l.length ≤ st) || Region.waitsFor .any l.toArray st j)
  && (List.range (l.length - n)).all (fun j => bs[j]? == some (decide (n + j < st)))

/-- A region whose head (n operations) reads and calls, each ready when all ahead of it are through; what stands behind may begin ahead of the head's end. -/
theorem region_flow {id : Nat} {a : Act} {w : World} {l : List Oper} (n st : Nat) (fs bs : List Bool) (hm : P.follows .mixedOrders = true) (hB : flowB l n st fs bs = true) (hQ : ∀ (d : Option Tmp) v c a w, Q (.panic c) (Act.put a d v) w → Q (.panic c) a w)
    (h : wpQuietR P l.toArray w.drew (fun a' => ∀ w', Below w.heap.size w w' → wpListR P l.toArray Q w.drew bs (l.drop n) a' w') fs (l.take n) a) : (Code.region id l.toArray true).wp P Q a w := by
  simp only [flowB, Bool.and_eq_true, decide_eq_true_eq, List.all_eq_true, List.mem_range, Bool.or_eq_true, Bool.not_eq_true', beq_iff_eq, beq_eq_false_iff_ne] at hB
  obtain ⟨⟨⟨⟨⟨hsel, hn⟩, hst⟩, hlex⟩, hfs⟩, hbs⟩ := hB
  have htl : (l.take n).length = n := by simp; omega
  have hdl : (l.drop n).length = l.length - n := by simp
  have H := wpAnyR_head (md := .any) (g := l.length - n) (n := n) (W0 := w.drew) hst hsel hQ (fun listed a' w' hls hs hS hz => by
    by_cases hl : listed.getD st false = false
    · have hS' := hS hl
      have := wpAnyR_seq (md := .any) (Q := Q) (W0 := w.drew) (st := st) bs (l.drop n) n listed a' w' (fun j => by simp [List.getElem?_drop]) hls (fun j hj => hbs j (by simpa using hj)) (fun h' => absurd h' (by omega)) (by rw [hdl]; exact hs) (hz w' ⟨hS'.os, hS'.tape, hS'.output, hS'.size, hS'.block⟩)
      rwa [hdl] at this
    · -- st is not through yet: the head alone is
      exfalso
      have hr := seqB_ready hs
      have hlt : st < listed.size := by
        rcases Nat.lt_or_ge st listed.size with h' | h'
        · exact h'
        · simp [Array.getElem?_eq_none h'] at hl
      have hseq : ∀ (g k : Nat) (listed : Array Bool), Region.seqB .any l.toArray g k listed = true → k + g = l.length → ∀ j, k ≤ j → j < l.length → listed.getD j true = false := by
        intro g
        induction g with
        | zero => intro k listed _ hk j h1 h2; omega
        | succ g ih =>
          intro k listed hB hk j h1 h2
          simp only [Region.seqB, Bool.and_eq_true, decide_eq_true_eq] at hB
          rcases Nat.lt_or_ge k j with h3 | h3
          · have := ih (k + 1) _ hB.2 (by omega) j (by omega) h2
            rwa [getD_set_ne true (by omega)] at this
          · obtain rfl : k = j := by omega
            exact (mem_ready.1 (show k ∈ Region.ready .any l.toArray listed by rw [hB.1]; simp)).1
      have := hseq (l.length - n) n listed hs (by omega) st hst (by simpa [hls] using hlt)
      rw [getD_both this] at hl
      exact hl rfl) fs (l.take n) 0 (Array.replicate l.length false) a w.drew (fun j hj => by
    have hj' : j < n := by rw [htl] at hj; exact hj
    simp [hj']) (by simpa using htl) (fun j hj hj2 hlt => by
      rw [htl] at hj
      rcases hfs j hj with (h1 | h1) | h1
      · exact absurd hj2 h1
      · simp at hlt; omega
      · simpa using h1) (by simp) (fun hl => by rw [getD_replicate_false] at hl; cases hl) (by rw [htl]; exact hlex) (fun _ => Below.refl _ _) h
  refine wp_region_any hm (wpAny_of_R (W0 := w.drew) (st := st) _ _ _ _ ?_)
  rw [htl, show n + (l.length - n) = l.length by omega] at H
  simpa using H

/-! ### The tail's operations -/
theorem wpListR_nil {bs : List Bool} {a : Act} {w : World} (h : ∀ w', Below w.heap.size w w' → Q .normal a w') : wpListR P ops Q W0 bs [] a w := by cases bs <;> exact h
theorem wpListR_alloc {b : Bool} {bs : List Bool} {o : Oper} {rest : List Oper} {a : Act} {w : World} (z : Array Value) (t : TypeId) (hS : Below W0.heap.size W0 w) (hg : o.guard = none)
    (hrun : ∀ w', (execOp a.eval o).run P w' = .ok (.value (.pointer (some ⟨w'.heap.size, 0, none⟩))) (w'.alloc (.cells z t)))
    (h : ∀ g w', W0.heap.size ≤ g → Blk w' g t z → Below W0.heap.size W0 w' → wpListR P ops Q W0 bs rest (a.put o.dst (.pointer (some ⟨g, 0, none⟩))) w') : wpListR P ops Q W0 (b :: bs) (o :: rest) a w := by
  intro w' hw' K hK
  have hS' := hS.trans (hw'.mono hS.size)
  have hS2 : Below W0.heap.size W0 (w'.alloc (.cells z t)) := hS'.alloc hS'.size _
  refine ⟨hg, ?_⟩
  unfold Oper.wp
  rw [hrun, Oper.upon_value]
  exact hK _ _ (fun _ => hS2) (h _ _ hS'.size (Blk.new _ _ _) hS2)
theorem wpListR_store {b : Bool} {bs : List Bool} {o : Oper} {rest : List Oper} {a : Act} {w : World} {g : Nat} {t : TypeId} {z cs : Array Value} (hS : Below W0.heap.size W0 w) (hb : Blk w g t z) (hgB : W0.heap.size ≤ g) (ty : TypeId) (x y : Operand) (hg : o.guard = none) (ho : o.op = .store ty x y)
    (hx : a.eval x = .pointer (some ⟨g, 0, none⟩)) (hy : a.eval y = .agg cs) (hs : cs.size = z.size) (hi : (P.info? ty).map (·.size) = some cs.size) (h1 : cs.all (·.oneCell') = true)
    (h : ∀ w', Blk w' g t cs → Below W0.heap.size W0 w' → wpListR P ops Q W0 bs rest (a.put o.dst undef) w') : wpListR P ops Q W0 (b :: bs) (o :: rest) a w := by
  intro w' hw' K hK
  have hS' := hS.trans (hw'.mono hS.size)
  have hb' := hb.below hw' hb.lt
  have hgr := setCells_grown g cs.toList 0 w'
  have hS2 : Below W0.heap.size W0 (w'.setCells g 0 cs.toList) := hS'.grown hgr hS'.size (fun k hk => by cases hk; exact hgB)
  exact ⟨hg, wp_store_mid ty x y ho g 0 cs hx hy (by rw [hs]; exact hb'.there) hi h1 (hK _ _ (fun _ => hS2) (h _ (hb'.setAll cs hs) hS2))⟩
/-- A store into a variable that was there. -/
theorem wpListR_store_old {bs : List Bool} {o : Oper} {rest : List Oper} {a : Act} {w : World} {g : Nat} {t : TypeId} {z cs : Array Value} (hb : Blk w g t z) (ty : TypeId) (x y : Operand) (hg : o.guard = none) (ho : o.op = .store ty x y)
    (hx : a.eval x = .pointer (some ⟨g, 0, none⟩)) (hy : a.eval y = .agg cs) (hs : cs.size = z.size) (hi : (P.info? ty).map (·.size) = some cs.size) (h1 : cs.all (·.oneCell') = true)
    (h : ∀ w', Blk w' g t cs → w.grownBy w' (some g) → wpListR P ops Q W0 bs rest (a.put o.dst undef) w') : wpListR P ops Q W0 (false :: bs) (o :: rest) a w := by
  intro w' hw' K hK
  have hb' := hb.below hw' hb.lt
  have hgr := setCells_grown g cs.toList 0 w'
  exact ⟨hg, wp_store_mid ty x y ho g 0 cs hx hy (by rw [hs]; exact hb'.there) hi h1 (hK _ _ (fun h => by cases h) (h _ (hb'.setAll cs hs) ⟨hgr.os.trans hw'.os, hgr.tape.trans hw'.tape, hgr.output.trans hw'.output, Nat.le_trans hw'.size hgr.size, fun k hk hne => (hgr.block k (Nat.lt_of_lt_of_le hk hw'.size) hne).trans (hw'.block k hk)⟩))⟩
theorem wpListR_assign {b : Bool} {bs : List Bool} {o : Oper} {rest : List Oper} {a : Act} {w : World} {x : Operand} (hS : b = true → Below W0.heap.size W0 w) (hg : o.guard = none) (ho : o.op = .assign x)
    (h : ∀ w', Below w.heap.size w w' → wpListR P ops Q W0 bs rest (a.put o.dst (a.eval x)) w') : wpListR P ops Q W0 (b :: bs) (o :: rest) a w := by
  intro w' hw' K hK
  refine ⟨hg, ?_⟩
  unfold Oper.wp
  rw [BigFrame.run_assign x ho, Oper.upon_value]
  exact hK _ _ (fun hb => (hS hb).trans (hw'.mono (hS hb).size)) (h w' hw')
/-- A variable of a struct's type is laid and filled. -/
theorem wpListR_var {b1 b2 : Bool} {bs : List Bool} {o1 o2 : Oper} {rest : List Oper} {a : Act} {w : World} {t : TypeId} {z cs : Array Value} {s : Tmp} (hS : Below W0.heap.size W0 w)
    (y : Operand) (h1g : o1.guard = none) (h1d : o1.dst = some s) (hrun : ∀ w', (execOp a.eval o1).run P w' = .ok (.value (.pointer (some ⟨w'.heap.size, 0, none⟩))) (w'.alloc (.cells z t)))
    (h2g : o2.guard = none) (h2d : o2.dst = none) (ho : o2.op = .store t (.tmp s) y) (hs1 : s < a.tmps.size) (hy : ∀ g, (a.put (some s) (.pointer (some ⟨g, 0, none⟩))).eval y = .agg cs) (hs : cs.size = z.size) (hi : (P.info? t).map (·.size) = some cs.size) (h1 : cs.all (·.oneCell') = true)
    (h : ∀ g w', W0.heap.size ≤ g → Blk w' g t cs → Below W0.heap.size W0 w' → wpListR P ops Q W0 bs rest (a.put (some s) (.pointer (some ⟨g, 0, none⟩))) w') : wpListR P ops Q W0 (b1 :: b2 :: bs) (o1 :: o2 :: rest) a w := by
  refine wpListR_alloc z t hS h1g hrun fun g w1 hg hb hS1 => ?_
  rw [h1d]
  refine wpListR_store hS1 hb hg t (.tmp s) y h2g ho (by simp [Act.put, Act.eval, hs1]) (hy g) hs hi h1 fun w2 hb2 hS2 => ?_
  rw [h2d]
  exact h g w2 hg hb2 hS2
end
end Go.Proofs.Ythclhmdgfekaeaa
