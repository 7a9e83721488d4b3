/- Helpers of our own: blocks that are known whole, ranges over functions as folds over lists. No program in sight. Structs and arrays of numbers are compared number by number. No program in sight. States by names: what slots and named blocks hold; a region whose order is open comes to what its text comes to. No program in sight. States by names: new blocks, stores, names given up. No program in sight. States by names: an operation, its guard, what it leaves. No program in sight. States by names: operations that yield a value of what slots hold. No program in sight. States by names: the operations that neither lay nor change a block. No program in sight. States by names: loads, stores, new variables. No program in sight. -/
import Derived.RangeFuncNested
import Derived.RangeFuncLeaves
import Derived.WalkKit
import Derived.OwnWalkIn
import Derived.TacticsInMore
import Derived.LoopNIn
import Derived.LoopIn
import Derived.Handy
import Derived.Lib.Hide
import Derived.BigQuiet
import Derived.Deep.RegionHeld3
import Derived.StillTailTactics
import Derived.OrdersIn
import Derived.Deep.Quiet
import Derived.Deep.MidRow
import Derived.Shelf.Abstract
import Derived.ChangeKeysEq
namespace Go.Proofs.Ytnmkpekfkfckoaa
set_option linter.unusedSectionVars false
open Go.RowKit
theorem grownBy_setCell_any (W : World) (p : Addr) (v : Value) : W.grownBy (W.setCell p v) (some p.block) :=
  ⟨rfl, rfl, rfl, by simp [World.setCell], fun k _ hk => Below.heap_setCell _ _ _ k (fun e => hk (by rw [e]))⟩
section
variable {W W' : World} {b : Nat} {t : TypeId} {cs : Array Value}
theorem setCells_grown (b : Nat) : ∀ (vs : List Value) (o : Nat) (w : World), w.grownBy (w.setCells b o vs) (some b)
  | [], _, w => World.grownBy.refl w _
  | v :: r, o, w => by
    rw [World.setCells]
    have h := setCells_grown b r (o + 1) (w.setCell ⟨b, o, none⟩ v)
    have h0 := grownBy_setCell_any w ⟨b, o, none⟩ v
    exact ⟨h.os.trans h0.os, h.tape.trans h0.tape, h.output.trans h0.output, Nat.le_trans h0.size h.size, fun k hk hne => (h.block k (Nat.lt_of_lt_of_le hk h0.size) hne).trans (h0.block k hk hne)⟩
end
def noDefers (ops : Array Oper) : Bool := ops.all fun o => match o.op with | .defer _ => false | _ => true
end Go.Proofs.Ytnmkpekfkfckoaa
namespace Go.Proofs.Ytnmkpekfkfckoaa.SX
open Go.RowKit
inductive FK where
  | i (k : IntKind)
  | b
  deriving DecidableEq
def flatF (P : Program) (go : TypeId → Option (List FK)) : List Field → Nat → Option (List FK)
  | [], _ => some []
  | f :: fs, o => match go f.type, flatF P go fs (o + P.cellsOf f.type) with
    | some l, some r => if f.offset = o ∧ l.length = P.cellsOf f.type ∧ 0 < l.length then some (l ++ r) else none
    | _, _ => none
/-- The cells of a type that holds numbers and truths alone. -/
def flatK (P : Program) : Nat → TypeId → Option (List FK)
  | 0, _ => none
  | n + 1, t => match P.underlying t with
    | some (.int k) => some [.i k]
    | some .bool => some [.b]
    | some (.struct fs) => match flatF P (flatK P n) fs.toList 0 with
      | some l => if l.length = P.cellsOf t then some l else none
      | none => none
    | some (.array m e) => match flatK P n e with
      | some l => if l.length = P.cellsOf e ∧ m * l.length = P.cellsOf t ∧ 0 < l.length then some (List.replicate m l).flatten else none
      | none => none
    | _ => none
/-- Cells of those kinds. -/
def fitB : List FK → List Value → Bool
  | [], [] => true
  | .i k :: ks, .int k' _ :: vs => (match k, k' with | .i8, .i8 | .i16, .i16 | .i32, .i32 | .i64, .i64 | .u8, .u8 | .u16, .u16 | .u32, .u32 | .u64, .u64 => true | _, _ => false) && fitB ks vs
  | .b :: ks, .bool _ :: vs => fitB ks vs
  | _, _ => false
/-- Number by number. -/
def eqs : List Value → List Value → Bool
  | .int _ a :: l, .int _ b :: m => (a == b) && eqs l m
  | .bool a :: l, .bool b :: m => (a == b) && eqs l m
  | _, _ => true
def conjP : List Value → List Value → Prop
  | .int _ a :: l, .int _ b :: m => a = b ∧ conjP l m
  | .bool a :: l, .bool b :: m => a = b ∧ conjP l m
  | _, _ => True
theorem eqs_iff : ∀ (l m : List Value), eqs l m = true ↔ conjP l m
  | [], m => by cases m <;> simp [eqs, conjP]
  | x :: l, [] => by cases x <;> simp [eqs, conjP]
  | x :: l, y :: m => by
    have ih := eqs_iff l m
    cases x <;> cases y <;> simp [eqs, conjP, ih]
/-- No field without a name, no type that the model stands in for. -/
def plainF (P : Program) (go : TypeId → Bool) : List Field → Bool
  | [] => true
  | f :: fs => (f.name != "_") && go f.type && plainF P go fs
def plainT (P : Program) : Nat → TypeId → Bool
  | 0, _ => false
  | n + 1, t => match P.underlying t with
    | some (.int _) => true
    | some .bool => true
    | some (.struct fs) => !P.stoodInHeld t && plainF P (plainT P n) fs.toList
    | some (.array _ e) => plainT P n e
    | _ => false
theorem fitB_length : ∀ {ks : List FK} {vs : List Value}, fitB ks vs = true → vs.length = ks.length
  | [], [], _ => rfl
  | .i k :: ks, .int k' n :: vs, h => by
    simp only [fitB, Bool.and_eq_true] at h
    simp [fitB_length h.2]
  | .b :: ks, .bool x :: vs, h => by
    simp only [fitB] at h
    simp [fitB_length h]
theorem fitB_take : ∀ (n : Nat) {ks : List FK} {vs : List Value}, fitB ks vs = true → fitB (ks.take n) (vs.take n) = true
  | 0, _, _, _ => rfl
  | n + 1, [], [], _ => rfl
  | n + 1, .i k :: ks, .int k' q :: vs, h => by
    simp only [fitB, Bool.and_eq_true, List.take_succ_cons] at h ⊢
    exact ⟨h.1, fitB_take n h.2⟩
  | n + 1, .b :: ks, .bool x :: vs, h => by
    simp only [fitB, List.take_succ_cons] at h ⊢
    exact fitB_take n h
theorem fitB_drop : ∀ (n : Nat) {ks : List FK} {vs : List Value}, fitB ks vs = true → fitB (ks.drop n) (vs.drop n) = true
  | 0, _, _, h => h
  | n + 1, [], [], _ => rfl
  | n + 1, .i k :: ks, .int k' q :: vs, h => by
    simp only [fitB, Bool.and_eq_true, List.drop_succ_cons] at h ⊢
    exact fitB_drop n h.2
  | n + 1, .b :: ks, .bool x :: vs, h => by
    simp only [fitB, List.drop_succ_cons] at h ⊢
    exact fitB_drop n h
theorem eqs_append : ∀ {ks : List FK} {l m l' m' : List Value}, fitB ks l = true → fitB ks m = true → eqs (l ++ l') (m ++ m') = (eqs l m && eqs l' m')
  | [], [], [], l', m', _, _ => by simp [eqs]
  | .i k :: ks, .int k1 a :: l, .int k2 b :: m, l', m', h1, h2 => by
    simp only [fitB, Bool.and_eq_true] at h1 h2
    simp only [List.cons_append, eqs, eqs_append h1.2 h2.2, Bool.and_assoc]
  | .b :: ks, .bool a :: l, .bool b :: m, l', m', h1, h2 => by
    simp only [fitB] at h1 h2
    simp only [List.cons_append, eqs, eqs_append h1 h2, Bool.and_assoc]
/-- A value of which these are the cells. -/
def ofCells (agg : Bool) (l : List Value) : Value := if agg then .agg l.toArray else l.headD undef
def aggT (P : Program) (t : TypeId) : Bool := match P.underlying t with
  | some (.struct _) | some (.array _ _) => true
  | _ => false
section
variable {P : Program}
theorem run_isAgg' {t : TypeId} {d : TypeDesc} (h : P.underlying t = some d) (w : World) : (isAgg t).run P w = .ok (aggT P t) w := by
  unfold isAgg aggT
  rw [h]
  simp only [Sem.run_bind, run_underlying h w, Result.andThen_ok]
  cases d <;> rfl
theorem run_part' {t : TypeId} {d : TypeDesc} {cs : List Value} {off : Nat} {ks : List FK} (h : P.underlying t = some d) (hlen : (P.info? t).map (·.size) = some ks.length) (hone : aggT P t = false → ks.length = 1) (hfit : fitB ks ((cs.drop off).take ks.length) = true) (w : World) :
    (part t cs.toArray off).run P w = .ok (ofCells (aggT P t) ((cs.drop off).take ks.length)) w := by
  have hsz : (sizeOf t).run P w = .ok ks.length w := by
    cases hq : P.info? t with
    | none => rw [hq] at hlen; cases hlen
    | some inf =>
      rw [hq] at hlen
      simp only [Option.map_some, Option.some.injEq] at hlen
      simp [sizeOf, typeInfo, hq, hlen]
  unfold part
  simp only [Sem.run_bind, run_isAgg' h w, Result.andThen_ok]
  cases ha : aggT P t with
  | true =>
    simp only [if_true, Sem.run_bind, hsz, Result.andThen_ok, Sem.run_pure, ofCells]
    congr 2
    simp [List.extract_eq_take_drop]
  | false =>
    have h1 := hone ha
    have hl := fitB_length hfit
    rw [h1] at hl ⊢
    simp only [Bool.false_eq_true, if_false, ofCells]
    cases hc : cs.drop off with
    | nil => rw [hc] at hl; simp at hl
    | cons x r =>
      have : cs[off]? = some x := by
        have := List.getElem?_drop (xs := cs) (i := off) (j := 0)
        rw [hc] at this; simpa using this.symm
      simp [this]
theorem info_of {t : TypeId} {n : Nat} (h : n = P.cellsOf t) (h0 : 0 < n) : (P.info? t).map (·.size) = some n := by
  unfold Program.cellsOf at h
  cases hq : (P.info? t).map (·.size) with
  | none => rw [hq] at h; simp at h; omega
  | some q => rw [hq] at h; simp at h; rw [h]
theorem flat_und {n : Nat} {t : TypeId} {ks : List FK} (h : flatK P n t = some ks) : ∃ d, P.underlying t = some d := by
  cases n with
  | zero => simp [flatK] at h
  | succ n =>
    cases hu : P.underlying t with
    | none => simp [flatK, hu] at h
    | some d => exact ⟨d, rfl⟩
theorem flat_one {n : Nat} {t : TypeId} {ks : List FK} (h : flatK P n t = some ks) (ha : aggT P t = false) : ks.length = 1 := by
  cases n with
  | zero => simp [flatK] at h
  | succ n =>
    unfold flatK at h
    cases hu : P.underlying t with
    | none => simp [hu] at h
    | some d => cases d <;> simp_all [aggT] <;> (subst h; rfl)
theorem take_take_drop (l : List Value) (o a b : Nat) : ((l.drop o).take (a + b)).take a = (l.drop o).take a := by rw [List.take_take]; congr 1; omega
theorem drop_take_drop (l : List Value) (o a b : Nat) : ((l.drop o).take (a + b)).drop a = (l.drop (o + a)).take b := by rw [List.drop_take, List.drop_drop]; congr 1; omega
theorem fit_split {l1 l2 : List FK} {l : List Value} {o : Nat} (h : fitB (l1 ++ l2) ((l.drop o).take (l1 ++ l2).length) = true) :
    fitB l1 ((l.drop o).take l1.length) = true ∧ fitB l2 ((l.drop (o + l1.length)).take l2.length) = true := by
  rw [List.length_append] at h
  constructor
  · have := fitB_take l1.length h
    rwa [List.take_left, take_take_drop] at this
  · have := fitB_drop l1.length h
    rwa [List.drop_left, drop_take_drop] at this
theorem eqs_split {l1 l2 : List FK} {l m : List Value} {o : Nat} (h : fitB l1 ((l.drop o).take l1.length) = true) (h' : fitB l1 ((m.drop o).take l1.length) = true) :
    eqs ((l.drop o).take (l1 ++ l2).length) ((m.drop o).take (l1 ++ l2).length) = (eqs ((l.drop o).take l1.length) ((m.drop o).take l1.length) && eqs ((l.drop (o + l1.length)).take l2.length) ((m.drop (o + l1.length)).take l2.length)) := by
  have e : ∀ x : List Value, (x.drop o).take (l1 ++ l2).length = (x.drop o).take l1.length ++ (x.drop (o + l1.length)).take l2.length := fun x => by
    rw [List.length_append, List.take_add, List.drop_drop]
  rw [e l, e m, eqs_append h h']
theorem fit1_int {k : IntKind} {l : List Value} (h : fitB [.i k] l = true) : ∃ a, l = [.int k a] := by
  cases l with
  | nil => simp [fitB] at h
  | cons x r =>
    cases x with
    | int k' a =>
      simp only [fitB, Bool.and_eq_true] at h
      have hr : r = [] := by cases r with
        | nil => rfl
        | cons _ _ => simp [fitB] at h
      have hk : k' = k := by cases k <;> cases k' <;> simp at h <;> rfl
      exact ⟨a, by rw [hr, hk]⟩
    | _ => simp [fitB] at h
theorem fit1_bool {l : List Value} (h : fitB [.b] l = true) : ∃ a, l = [.bool a] := by
  cases l with
  | nil => simp [fitB] at h
  | cons x r =>
    cases x with
    | bool a =>
      simp only [fitB] at h
      have hr : r = [] := by cases r with
        | nil => rfl
        | cons _ _ => simp [fitB] at h
      exact ⟨a, by rw [hr]⟩
    | _ => simp [fitB] at h
theorem run_eq_flat : ∀ (n : Nat) (t : TypeId) (ks : List FK), flatK P n t = some ks → plainT P n t = true → ∀ (d : Nat), n ≤ d → ∀ (l m : List Value), fitB ks l = true → fitB ks m = true → ∀ w, (Op.equalIn d t (ofCells (aggT P t) l) (ofCells (aggT P t) m)).run P w = .ok (eqs l m) w
  | 0, _, _, h, _, _, _, _, _, _, _, _ => by simp [flatK] at h
  | n + 1, t, ks, h, hp, 0, hd, _, _, _, _, _ => by omega
  | n + 1, t, ks, h, hp, d + 1, hd, l, m, hl, hm, w => by
    have ih := run_eq_flat n
    unfold flatK at h
    unfold plainT at hp
    cases hu : P.underlying t with
    | none => simp [hu] at h
    | some de =>
      cases de with
      | int k =>
        simp only [hu, Option.some.injEq] at h
        subst h
        have ha : aggT P t = false := by simp [aggT, hu]
        rw [ha]
        obtain ⟨a, rfl⟩ := fit1_int hl
        obtain ⟨b, rfl⟩ := fit1_int hm
        simp only [ofCells, Bool.false_eq_true, if_false, List.headD_cons]
        rw [run_equalIn_int w d t _ _ a b hu]
        simp [eqs]
      | bool =>
        simp only [hu, Option.some.injEq] at h
        subst h
        have ha : aggT P t = false := by simp [aggT, hu]
        rw [ha]
        obtain ⟨a, rfl⟩ := fit1_bool hl
        obtain ⟨b, rfl⟩ := fit1_bool hm
        simp only [ofCells, Bool.false_eq_true, if_false, List.headD_cons]
        rw [run_equalIn_bool w d t a b hu]
        simp [eqs]
      | struct fs =>
        simp only [hu] at h hp
        have ha : aggT P t = true := by simp [aggT, hu]
        rw [ha]
        simp only [Bool.and_eq_true, Bool.not_eq_true'] at hp
        cases hff : flatF P (flatK P n) fs.toList 0 with
        | none => simp [hff] at h
        | some l0 =>
        simp only [hff] at h
        split at h
        · rename_i hlen0
          simp only [Option.some.injEq] at h
          subst h
          have hfo : P.fieldsOf t = fs := by simp [Program.fieldsOf, hu]
          simp only [ofCells, if_true]
          rw [run_equalIn_struct w d t l.toArray m.toArray (by rw [hfo]; exact hu) hp.1, hfo]
          have key : ∀ (fl : List Field) (o : Nat) (ks : List FK), flatF P (flatK P n) fl o = some ks → plainF P (plainT P n) fl = true → fitB ks ((l.drop o).take ks.length) = true → fitB ks ((m.drop o).take ks.length) = true →
              (Op.eqFields d l.toArray m.toArray fl).run P w = .ok (eqs ((l.drop o).take ks.length) ((m.drop o).take ks.length)) w := by
            intro fl
            induction fl with
            | nil => intro o ks hk _ _ _; simp only [flatF, Option.some.injEq] at hk; subst hk; simp [Op.eqFields, eqs]
            | cons f fl ihf =>
              intro o ks hk hpl hfl hfm
              simp only [flatF] at hk
              cases h1 : flatK P n f.type with
              | none => simp [h1] at hk
              | some l1 =>
                cases h2 : flatF P (flatK P n) fl (o + P.cellsOf f.type) with
                | none => simp [h1, h2] at hk
                | some l2 =>
                  simp only [h1, h2] at hk
                  split at hk
                  · rename_i hc
                    obtain ⟨c1, c2, c3⟩ := hc
                    simp only [Option.some.injEq] at hk
                    subst hk
                    rw [← c2] at h2
                    simp only [plainF, Bool.and_eq_true, bne_iff_ne, ne_eq] at hpl
                    obtain ⟨fl1, fl2⟩ := fit_split hfl
                    obtain ⟨fm1, fm2⟩ := fit_split hfm
                    obtain ⟨df, hdf⟩ := flat_und h1
                    have p1 := run_part' (cs := l) (off := f.offset) hdf (info_of c2 c3) (flat_one h1) (by rw [c1]; exact fl1) w
                    have p2 := run_part' (cs := m) (off := f.offset) hdf (info_of c2 c3) (flat_one h1) (by rw [c1]; exact fm1) w
                    rw [c1] at p1 p2
                    have p3 := ih f.type l1 h1 hpl.1.2 d (by omega) _ _ fl1 fm1 w
                    have p4 := ihf _ _ h2 hpl.2 fl2 fm2
                    rw [eqs_split fl1 fm1]
                    simp only [Op.eqFields, ne_eq, hpl.1.1, not_false_eq_true, if_true, Sem.run_bind]
                    rw [c1, p1]
                    simp only [Result.andThen_ok]
                    rw [p2]
                    simp only [Result.andThen_ok]
                    rw [p3]
                    simp only [Result.andThen_ok]
                    cases eqs ((l.drop o).take l1.length) ((m.drop o).take l1.length) with
                    | true => simpa using p4
                    | false => simp
                  · cases hk
          have hl' := fitB_length hl
          have hm' := fitB_length hm
          have := key fs.toList 0 l0 hff hp.2 (by rw [List.drop_zero, List.take_of_length_le (by omega)]; exact hl) (by rw [List.drop_zero, List.take_of_length_le (by omega)]; exact hm)
          rwa [List.drop_zero, List.drop_zero, List.take_of_length_le (by omega), List.take_of_length_le (by omega)] at this
        · cases h
      | array q e =>
        simp only [hu] at h hp
        have ha : aggT P t = true := by simp [aggT, hu]
        rw [ha]
        cases hl0 : flatK P n e with
        | none => simp [hl0] at h
        | some l0 =>
        simp only [hl0] at h
        split at h
        · rename_i hc
          obtain ⟨c1, c2, c3⟩ := hc
          simp only [Option.some.injEq] at h
          subst h
          obtain ⟨de, hde⟩ := flat_und hl0
          have hinf := info_of c1 c3
          obtain ⟨i, hi⟩ : ∃ i, P.info? e = some i := by
            cases hq : P.info? e with
            | none => rw [hq] at hinf; cases hinf
            | some i => exact ⟨i, rfl⟩
          simp only [ofCells, if_true]
          rw [run_equalIn_array w d l.toArray m.toArray hu hi, ← c1]
          have key : ∀ (j o : Nat), fitB (List.replicate j l0).flatten ((l.drop (o * l0.length)).take (j * l0.length)) = true → fitB (List.replicate j l0).flatten ((m.drop (o * l0.length)).take (j * l0.length)) = true →
              (Op.eqItems d e l0.length l.toArray m.toArray (List.range' o j)).run P w = .ok (eqs ((l.drop (o * l0.length)).take (j * l0.length)) ((m.drop (o * l0.length)).take (j * l0.length))) w := by
            intro j
            induction j with
            | zero => intro o _ _; simp [Op.eqItems, eqs]
            | succ j ihj =>
              intro o hfl hfm
              have hlen : (l0 ++ (List.replicate j l0).flatten).length = (j + 1) * l0.length := by simp [Nat.add_mul, Nat.add_comm]
              have hlen2 : (List.replicate j l0).flatten.length = j * l0.length := by simp
              rw [List.replicate_succ, List.flatten_cons, ← hlen] at hfl hfm
              obtain ⟨fl1, fl2⟩ := fit_split hfl
              obtain ⟨fm1, fm2⟩ := fit_split hfm
              rw [hlen2, show o * l0.length + l0.length = (o + 1) * l0.length from by rw [Nat.add_mul, Nat.one_mul]] at fl2 fm2
              have p1 := run_part' (cs := l) (off := o * l0.length) hde hinf (flat_one hl0) fl1 w
              have p2 := run_part' (cs := m) (off := o * l0.length) hde hinf (flat_one hl0) fm1 w
              have p3 := ih e l0 hl0 hp d (by omega) _ _ fl1 fm1 w
              have p4 := ihj (o + 1) fl2 fm2
              rw [← hlen, eqs_split fl1 fm1, hlen2, show o * l0.length + l0.length = (o + 1) * l0.length from by rw [Nat.add_mul, Nat.one_mul]]
              rw [List.range'_succ]
              simp only [Op.eqItems, Sem.run_bind]
              rw [p1]
              simp only [Result.andThen_ok]
              rw [p2]
              simp only [Result.andThen_ok]
              rw [p3]
              simp only [Result.andThen_ok]
              cases eqs ((l.drop (o * l0.length)).take l0.length) ((m.drop (o * l0.length)).take l0.length) with
              | true => simpa using p4
              | false => simp
          have hl' := fitB_length hl
          have hm' := fitB_length hm
          have hq : (List.replicate q l0).flatten.length = q * l0.length := by simp
          have := key q 0 (by rw [Nat.zero_mul, List.drop_zero, List.take_of_length_le (by omega)]; exact hl) (by rw [Nat.zero_mul, List.drop_zero, List.take_of_length_le (by omega)]; exact hm)
          rw [Nat.zero_mul, List.drop_zero, List.drop_zero, List.take_of_length_le (by omega), List.take_of_length_le (by omega)] at this
          rw [List.range_eq_range']; exact this
        · cases h
      | _ => simp [hu] at h
/-- The comparison of two structs or arrays of numbers. -/
theorem run_eql_flat {t : TypeId} {ks : List FK} {l m : List Value} (h : flatK P 9 t = some ks) (hp : plainT P 9 t = true) (ha : aggT P t = true) (hl : fitB ks l = true) (hm : fitB ks m = true) (w : World) : (binOp .eql t (.agg l.toArray) (.agg m.toArray)).run P w = .ok (.bool (eqs l m)) w := by
  rw [run_eql_struct]
  have := run_eq_flat 9 t ks h hp 10000 (by omega) l m hl hm w
  rw [ha] at this
  simp only [ofCells, if_true] at this
  rw [this]; rfl
theorem run_neq_flat {t : TypeId} {ks : List FK} {l m : List Value} (h : flatK P 9 t = some ks) (hp : plainT P 9 t = true) (ha : aggT P t = true) (hl : fitB ks l = true) (hm : fitB ks m = true) (w : World) : (binOp .neq t (.agg l.toArray) (.agg m.toArray)).run P w = .ok (.bool (!eqs l m)) w := by
  rw [run_neq_struct]
  have := run_eq_flat 9 t ks h hp 10000 (by omega) l m hl hm w
  rw [ha] at this
  simp only [ofCells, if_true] at this
  rw [this]; rfl
end
end Go.Proofs.Ytnmkpekfkfckoaa.SX
namespace Go.Proofs.Ytnmkpekfkfckoaa.EV
open Go.RowKit
/-- Where named blocks lie: the block, the first cell, how many cells from there on. -/
structure Env where
  id : Nat → Nat
  bs : Nat → Nat
  rm : Nat → Nat
structure Env.same (e f : Env) (n : Nat) : Prop where
  id : e.id n = f.id n
  bs : e.bs n = f.bs n
  rm : e.rm n = f.rm n
theorem Env.same.rfl {e : Env} {n : Nat} : e.same e n := ⟨Eq.refl _, Eq.refl _, Eq.refl _⟩
theorem Env.same.trans {e f g : Env} {n : Nat} (h : e.same f n) (k : f.same g n) : e.same g n := ⟨h.id.trans k.id, h.bs.trans k.bs, h.rm.trans k.rm⟩
theorem Env.same.symm {e f : Env} {n : Nat} (h : e.same f n) : f.same e n := ⟨h.id.symm, h.bs.symm, h.rm.symm⟩
def Env.set (e : Env) (n i b r : Nat) : Env :=
  ⟨fun k => if k = n then i else e.id k, fun k => if k = n then b else e.bs k, fun k => if k = n then r else e.rm k⟩
theorem Env.set_ne (e : Env) {n i b r k : Nat} (h : k ≠ n) : (e.set n i b r).same e k := ⟨if_neg h, if_neg h, if_neg h⟩
theorem Env.set_id (e : Env) (n i b r : Nat) : (e.set n i b r).id n = i := if_pos rfl
theorem Env.set_bs (e : Env) (n i b r : Nat) : (e.set n i b r).bs n = b := if_pos rfl
theorem Env.set_rm (e : Env) (n i b r : Nat) : (e.set n i b r).rm n = r := if_pos rfl
/-- What one cell holds. -/
inductive C where
  | v (x : Value)
  | p (n off : Nat)
  | s (n off len cap : Nat)
  | g (n off len lb esz : Nat)
  | f (g : FuncId) (caps : List (Nat × Nat))
  | y (n : Nat)
/-- Which values are told by it. An empty slice without room may stand anywhere. -/
def Rep (e : Env) : C → Value → Prop
  | .v x, u => u = x
  | .p n o, u => u = .pointer (some ⟨e.id n, e.bs n + o, none⟩)
  | .s n o l k, u => u = .slice (some ⟨e.id n, e.bs n + o, none⟩) l k ∨ (l = 0 ∧ k = 0 ∧ ∃ a, u = .slice a 0 0)
  | .g n o l b z, u => (∃ k, u = .slice (some ⟨e.id n, e.bs n + o, none⟩) l k ∧ l ≤ k ∧ b ≤ k ∧ k ≤ maxLen ∧ o + k * z ≤ e.rm n) ∨ (l = 0 ∧ b = 0 ∧ ∃ a, u = .slice a 0 0)
  | .f g caps, u => u = .func (.func g) #[] (caps.map fun q => Value.pointer (some ⟨e.id q.1, e.bs q.1 + q.2, none⟩)).toArray
  | .y n, u => u = .func (.yield (e.id n)) #[] #[]
def C.names : C → List Nat
  | .v _ => []
  | .p n _ => [n]
  | .s n _ _ _ => [n]
  | .g n _ _ _ _ => [n]
  | .f _ caps => caps.map (·.1)
  | .y n => [n]
/-- What a slot holds: one cell's, a struct's or an array's, several results. -/
inductive V where
  | c (x : C)
  | a (l : List C)
  | t (l : List (C ⊕ List C))
def namesP : C ⊕ List C → List Nat
  | .inl x => x.names
  | .inr l => l.flatMap C.names
def V.names : V → List Nat
  | .c x => x.names
  | .a l => l.flatMap C.names
  | .t l => l.flatMap namesP
/-- What a loop over a function keeps. -/
structure LoopK where
  st : LoopState
  pending : Option Code
  N : Nat
  ts : List (Nat × V)
  params : Array Tmp
  assign : Code
  body : Code
  D : Nat
/-- What a block holds: cells; plain cells; a loop's record; the place of deferred calls (none). -/
inductive B where
  | m (own : Bool) (l : List C)
  | w (own : Bool) (l : List Value)
  | lp (r : LoopK)
  | df
def B.names : B → List Nat
  | .m _ l => l.flatMap C.names
  | .w _ _ => []
  | .lp r => r.D :: r.ts.flatMap fun x => x.2.names
  | .df => []
def B.own : B → Bool
  | .m o _ => o
  | .w o _ => o
  | _ => true
/-- Where something is held: a slot, a named block; whether a name may be used. -/
inductive Key where
  | t (i : Nat)
  | b (n : Nat)
  | l (n : Nat)
  deriving DecidableEq
def Key.beq : Key → Key → Bool
  | .t i, .t j => Nat.beq i j
  | .b n, .b m => Nat.beq n m
  | .l n, .l m => Nat.beq n m
  | _, _ => false
theorem Key.beq_iff (a b : Key) : a.beq b = true ↔ a = b := by
  cases a <;> cases b <;> simp [Key.beq]
theorem Key.beq_refl (a : Key) : a.beq a = true := (Key.beq_iff a a).2 rfl
theorem Key.beq_ne {a b : Key} (h : a ≠ b) : a.beq b = false := by
  cases hb : a.beq b with
  | true => exact absurd ((Key.beq_iff _ _).1 hb) h
  | false => rfl
inductive KV where
  | v (x : V)
  | b (x : B)
  | l (alive : Bool)
def KV.names : KV → List Nat
  | .v x => x.names
  | .b x => x.names
  | .l _ => []
abbrev Ws := List (Key × KV)
abbrev Sf := Key → Option KV
def lookW : Ws → Sf
  | [], _ => none
  | (k, x) :: r, q => bif Key.beq k q then some x else lookW r q
def upd (s : Sf) (ws : Ws) : Sf := fun q => (lookW ws q).or (s q)
theorem upd_nil (s : Sf) : upd s [] = s := by funext q; simp [upd, lookW]
theorem upd_cons_self (s : Sf) (k : Key) (x : KV) (r : Ws) : upd s ((k, x) :: r) k = some x := by simp [upd, lookW, Key.beq_refl]
theorem upd_cons_ne (s : Sf) {k q : Key} (x : KV) (r : Ws) (h : k ≠ q) : upd s ((k, x) :: r) q = upd s r q := by simp [upd, lookW, Key.beq_ne h]
theorem upd_cons (s : Sf) (k q : Key) (x : KV) (r : Ws) : upd s ((k, x) :: r) q = if k = q then some x else upd s r q := by
  by_cases h : k = q
  · subst h; rw [if_pos rfl]; exact upd_cons_self s k x r
  · rw [if_neg h]; exact upd_cons_ne s x r h
theorem look_mem {ws : Ws} {q : Key} {x : KV} (h : lookW ws q = some x) : (q, x) ∈ ws := by
  induction ws with
  | nil => cases h
  | cons y r ih =>
    obtain ⟨k, y⟩ := y
    simp only [lookW] at h
    cases hk : Key.beq k q with
    | true =>
      rw [hk] at h
      simp only [cond_true, Option.some.injEq] at h
      rw [(Key.beq_iff _ _).1 hk, h]; exact List.mem_cons_self
    | false => rw [hk] at h; exact List.mem_cons_of_mem _ (ih h)
theorem look_isSome {ws : Ws} {q : Key} : (lookW ws q).isSome = ws.any fun x => Key.beq x.1 q := by
  induction ws with
  | nil => rfl
  | cons y r ih =>
    obtain ⟨k, y⟩ := y
    simp only [lookW, List.any_cons]
    cases hk : Key.beq k q with
    | true => simp
    | false => simpa using ih
/-- May the name be used? -/
def live (s : Sf) (n : Nat) : Prop := s (.l n) = some (.l true)
/-- Whoever is named has been made. -/
def Cl (s : Sf) : Prop := (∀ q x, s q = some x → ∀ n ∈ x.names, s (.l n) ≠ none) ∧ ∀ n, s (.b n) ≠ none → s (.l n) ≠ none
/-- What does not change in a walk: the program, the world at the start, which of its blocks may be written, the names that were handed in; how many slots a frame has, and what it left to be done. -/
structure Ctx where
  P : Program
  w0 : World
  tch : Nat → Prop
  gv : Nat → Prop
  ini : Env
  N : Nat
  fm : List Nat
/-- The mark that a range over a function leaves. -/
def mark1 (D : Nat) : Deferred := { target := .collected D, args := #[] }
abbrev Ctx.B (c : Ctx) : Nat := c.w0.heap.size
/-- What is told of a cell's value, as long as the names may be used. -/
def Ok (s : Sf) (e : Env) (x : C) (u : Value) : Prop := (∀ n ∈ x.names, live s n) → Rep e x u
/-- .. of a cell in a row. -/
structure Okc (s : Sf) (e : Env) (x : C) (u : Value) : Prop where
  one : u.oneCell' = true
  ok : Ok s e x u
def OkL (s : Sf) (e : Env) : List C → List Value → Prop
  | [], us => us = []
  | x :: l, us => ∃ u r, us = u :: r ∧ Okc s e x u ∧ OkL s e l r
def OkP (s : Sf) (e : Env) : C ⊕ List C → Value → Prop
  | .inl x, u => Ok s e x u
  | .inr l, u => ∃ us : List Value, u = .agg us.toArray ∧ OkL s e l us
def OkT (s : Sf) (e : Env) : List (C ⊕ List C) → List Value → Prop
  | [], us => us = []
  | x :: l, us => ∃ u r, us = u :: r ∧ OkP s e x u ∧ OkT s e l r
def OkV (s : Sf) (e : Env) : V → Value → Prop
  | .c x, u => Ok s e x u
  | .a l, u => ∃ us : List Value, u = .agg us.toArray ∧ OkL s e l us
  | .t l, u => ∃ us : List Value, u = .tuple us.toArray ∧ OkT s e l us
/-- A row of cells. -/
def MOk (s : Sf) (e : Env) (w : World) (n : Nat) (own : Bool) (l : List C) : Prop :=
  l.length ≤ e.rm n ∧ (e.rm n = 0 ∨
  ∃ cs ty fz, w.heap[e.id n]? = some (.cells cs ty fz) ∧ (own = true → fz.1 = fz.2 ∨ e.bs n + e.rm n ≤ fz.1) ∧ e.bs n + e.rm n ≤ cs.size ∧
    ∀ i x, l[i]? = some x → ∃ u, cs[e.bs n + i]? = some u ∧ Okc s e x u)
theorem unfroz {x y b r i : Nat} (h : x = y ∨ b + r ≤ x) (hi : i < r) : ¬ (x ≤ b + i ∧ b + i < y) := by omega
def BOk (s : Sf) (e : Env) (w : World) (n : Nat) : B → Prop
  | .m o l => MOk s e w n o l
  | .w o l => MOk s e w n o (l.map C.v)
  | .lp r => e.rm n = 1 ∧ ∃ (fn : FuncId) (tm : Array Value), w.heap[e.id n]? = some (.loop { state := r.st, pending := r.pending, fn, tmps := tm, params := r.params, assign := r.assign, body := r.body, defers := e.id r.D }) ∧ tm.size = r.N ∧
      ∀ i v, (i, v) ∈ r.ts → ∃ u, tm[i]? = some u ∧ OkV s e v u
  | .df => e.rm n = 1 ∧ w.heap[e.id n]? = some (.deferred (some []))
/-- The world part of 'the state s stands'. -/
structure RealW (c : Ctx) (s : Sf) (e : Env) (w : World) : Prop where
  blk : ∀ n b, s (.l n) = some (.l true) → s (.b n) = some (.b b) → BOk s e w n b
  sep : ∀ n n' b b', s (.l n) = some (.l true) → s (.b n) = some (.b b) → s (.l n') = some (.l true) → s (.b n') = some (.b b') → n ≠ n' → b.own = true → e.rm n = 0 ∨ e.rm n' = 0 ∨ e.id n ≠ e.id n'
  own : ∀ n b, s (.l n) = some (.l true) → s (.b n) = some (.b b) → b.own = true → e.rm n = 0 ∨ c.B ≤ e.id n ∨ c.tch (e.id n)
  cl : Cl s
  given : ∀ n, c.gv n → e.same c.ini n
  os : w.os = c.w0.os
  tape : w.tape = c.w0.tape
  output : w.output = c.w0.output
  size : c.B ≤ w.heap.size
  old : ∀ k, k < c.B → ¬ c.tch k → w.heap[k]? = c.w0.heap[k]?
structure Real (c : Ctx) (s : Sf) (e : Env) (a : Act) (w : World) : Prop where
  W : RealW c s e w
  defers : a.defers = c.fm.map fun n => mark1 (e.id n)
  fml : ∀ n ∈ c.fm, s (.l n) = some (.l true) ∧ s (.b n) = some (.b .df)
  slots : a.tmps.size = c.N
  tmp : ∀ i v, s (.t i) = some (.v v) → ∃ u, a.tmps[i]? = some u ∧ OkV s e v u
/-- What an operation reads, and what it leaves. -/
structure Tr where
  rd : Key → Bool
  ws : Ws
instance : Inhabited Tr := ⟨⟨fun _ => false, []⟩⟩
/-- A list of keys, as what is read. -/
def kr (l : List Key) : Key → Bool := fun q => l.any fun k => Key.beq k q
theorem kr_iff {l : List Key} {q : Key} : kr l q = true ↔ q ∈ l := by
  simp only [kr, List.any_eq_true, Key.beq_iff]
  exact ⟨fun ⟨x, hx, e⟩ => e ▸ hx, fun h => ⟨q, h, rfl⟩⟩
section
variable {c : Ctx} {F : Fence} {nn : Nat}
/-- Operation i, in every state that holds what it reads, leaves just that. -/
def LocalI (c : Ctx) (F : Fence) (nn : Nat) (ops : Array Oper) (i : Nat) (σ : Sf) (t : Tr) : Prop :=
  Cl σ → ∀ (Q : Exit → Act → World → Prop) (s : Sf) (e : Env) (a : Act) (w : World) (K : Act → World → Prop), (∀ q, t.rd q = true → s q = σ q) → Real c s e a w →
    (∀ e' a' w', Real c (upd s t.ws) e' a' w' → K a' w') → wpOpIn F nn c.P ops Q i K a w
/-- The state when of the first j operations those of E are done. -/
def stAt (s0 : Sf) (T : Nat → Tr) (E : Nat → Bool) : Nat → Sf
  | 0 => s0
  | j + 1 => bif E j then upd (stAt s0 T E j) (T j).ws else stAt s0 T E j
theorem stAt_congr {s0 : Sf} {T : Nat → Tr} {E E' : Nat → Bool} {q : Key} : ∀ j, (∀ k, k < j → (lookW (T k).ws q).isSome = true → E k = E' k) → stAt s0 T E j q = stAt s0 T E' j q
  | 0, _ => rfl
  | j + 1, h => by
    have ih := stAt_congr (s0 := s0) (T := T) (E := E) (E' := E') (q := q) j (fun k hk => h k (by omega))
    have hj := h j (by omega)
    simp only [stAt]
    cases hw : lookW (T j).ws q with
    | some x =>
      rw [hw] at hj
      rw [hj rfl]
      cases E' j with
      | true => simp [upd, hw]
      | false => simpa using ih
    | none =>
      cases E j <;> cases E' j <;> simp [upd, hw, ih]
theorem stAt_tr {s0 : Sf} {T T' : Nat → Tr} {E : Nat → Bool} : ∀ j, (∀ k, k < j → T k = T' k) → stAt s0 T E j = stAt s0 T' E j
  | 0, _ => rfl
  | j + 1, h => by
    have ih := stAt_tr (s0 := s0) (T := T) (T' := T') (E := E) j (fun k hk => h k (by omega))
    simp only [stAt, ih, h j (by omega)]
def keysMeet (ws : Ws) (ks : List Key) : Bool := ws.any fun x => ks.any fun q => Key.beq x.1 q
/-- Does one write what the other reads or writes? -/
def conf (a b : Tr) : Bool := (a.ws.any fun x => b.rd x.1) || (b.ws.any fun x => a.rd x.1) || keysMeet a.ws (b.ws.map (·.1))
theorem keysMeet_of {ws : Ws} {ks : List Key} {q : Key} (h : (lookW ws q).isSome = true) (hq : q ∈ ks) : keysMeet ws ks = true := by
  rw [look_isSome, List.any_eq_true] at h
  obtain ⟨x, hx, hk⟩ := h
  exact List.any_eq_true.2 ⟨x, hx, List.any_eq_true.2 ⟨q, hq, hk⟩⟩
theorem rdMeet_of {ws : Ws} {rd : Key → Bool} {q : Key} (h : (lookW ws q).isSome = true) (hq : rd q = true) : (ws.any fun x => rd x.1) = true := by
  rw [look_isSome, List.any_eq_true] at h
  obtain ⟨x, hx, hk⟩ := h
  exact List.any_eq_true.2 ⟨x, hx, by rw [(Key.beq_iff _ _).1 hk]; exact hq⟩
theorem conf_comm {a b : Tr} (h : conf a b = true) : conf b a = true := by
  have e : keysMeet b.ws (a.ws.map (·.1)) = keysMeet a.ws (b.ws.map (·.1)) := by
    rw [Bool.eq_iff_iff]
    simp only [keysMeet, List.any_eq_true, List.mem_map, Key.beq_iff]
    constructor
    · rintro ⟨x, hx, _, ⟨y, hy, rfl⟩, h⟩; exact ⟨y, hy, _, ⟨x, hx, rfl⟩, h.symm⟩
    · rintro ⟨x, hx, _, ⟨y, hy, rfl⟩, h⟩; exact ⟨y, hy, _, ⟨x, hx, rfl⟩, h.symm⟩
  simp only [conf, e, Bool.or_eq_true] at h ⊢
  rcases h with (h | h) | h
  · exact .inl (.inr h)
  · exact .inl (.inl h)
  · exact .inr h
def deps (ops : Array Oper) (i : Nat) : List Nat := match ops[i]? with
  | some o => (o.after.toList.filter (Region.binds .any ·)).map (·.on)
  | none => []
/-- Must k be done when i is done? -/
def reach (ops : Array Oper) : Nat → Nat → Nat → Bool
  | 0, _, _ => false
  | f + 1, i, k => (deps ops i).any (fun j => Nat.beq j k) || (deps ops i).any (fun j => Nat.ble (k + 1) j && reach ops f j k)
def Shut (ops : Array Oper) (E : Nat → Bool) : Prop := ∀ i, E i = true → ∀ j ∈ deps ops i, E j = true
theorem reach_sound {ops : Array Oper} {E : Nat → Bool} (hE : Shut ops E) : ∀ (f i k : Nat), reach ops f i k = true → (∀ j ∈ deps ops i, E j = true) → E k = true
  | 0, _, _, h, _ => by cases h
  | f + 1, i, k, h, hd => by
    simp only [reach, Bool.or_eq_true, List.any_eq_true, Bool.and_eq_true] at h
    rcases h with ⟨j, hj, hk⟩ | ⟨j, hj, _, hr⟩
    · rw [← Nat.eq_of_beq_eq_true hk]; exact hd j hj
    · exact reach_sound hE f j k hr (fun x hx => hE j (hd j hj) x hx)
def pairsOk (ops : Array Oper) : Nat → Tr → Nat → List Tr → Bool
  | _, _, _, [] => true
  | i, t, k, u :: r => (!conf u t || reach ops (i + 1) i k) && pairsOk ops i t (k + 1) r
/-- Whoever meets in a key stands in a fixed order; nobody waits for what stands behind. -/
def ordB (ops : Array Oper) (tr : List Tr) : Bool :=
  tr.zipIdx.all (fun x => pairsOk ops x.2 x.1 0 (tr.take x.2)) && (List.range ops.size).all fun i => (deps ops i).all fun j => Nat.blt j i
theorem pairsOk_spec {ops : Array Oper} {i : Nat} {t : Tr} : ∀ (r : List Tr) (k0 : Nat), pairsOk ops i t k0 r = true → ∀ (k : Nat) (u : Tr), r[k]? = some u → conf u t = true → reach ops (i + 1) i (k0 + k) = true
  | [], _, _, k, u, hu, _ => by simp at hu
  | v :: r, k0, h, k, u, hu, hc => by
    simp only [pairsOk, Bool.and_eq_true] at h
    cases k with
    | zero =>
      simp at hu; subst hu
      have := h.1; simp only [hc, Bool.not_true, Bool.false_or] at this
      simpa using this
    | succ k =>
      have := pairsOk_spec r (k0 + 1) h.2 k u (by simpa using hu) hc
      rw [show k0 + (k + 1) = k0 + 1 + k from by omega]; exact this
theorem ordB_spec {ops : Array Oper} {tr : List Tr} (h : ordB ops tr = true) :
    (∀ i k, k < i → i < tr.length → conf (tr.getD k default) (tr.getD i default) = true → reach ops (i + 1) i k = true) ∧ ∀ i, ∀ j ∈ deps ops i, j < i := by
  simp only [ordB, Bool.and_eq_true, List.all_eq_true] at h
  refine ⟨fun i k hk hi hc => ?_, fun i j hj => ?_⟩
  · have h1 := h.1 (tr[i], i) (by
      rw [List.mem_iff_getElem]
      exact ⟨i, by simpa using hi, by simp⟩)
    have := pairsOk_spec _ 0 h1 k (tr[k]'(by omega)) (by rw [List.getElem?_take, if_pos hk]; exact List.getElem?_eq_getElem (by omega)) (by
      simp only [List.getD_eq_getElem?_getD, List.getElem?_eq_getElem (show k < tr.length by omega), List.getElem?_eq_getElem hi, Option.getD_some] at hc; exact hc)
    simpa using this
  · by_cases hi : i < ops.size
    · have := h.2 i (List.mem_range.2 hi) j hj
      simpa [Nat.blt_eq] using this
    · unfold deps at hj
      rw [Array.getElem?_eq_none (by omega)] at hj
      cases hj
theorem ready_iff {ops : Array Oper} {listed : Array Bool} {i : Nat} (h : i ∈ Region.ready .any ops listed) :
    i < ops.size ∧ listed.getD i true = false ∧ ∀ j ∈ deps ops i, listed.getD j false = true := by
  simp only [Region.ready, List.mem_filter, List.mem_range, Bool.and_eq_true, Bool.not_eq_true'] at h
  obtain ⟨h1, h2, h3⟩ := h
  refine ⟨h1, h2, fun j hj => ?_⟩
  unfold deps at hj
  rw [Array.getElem?_eq_getElem h1] at hj h3
  simp only [List.mem_map, List.mem_filter] at hj
  obtain ⟨e, ⟨he, hb⟩, rfl⟩ := hj
  simp only [Option.map_some, Option.getD_some] at h3
  have := Array.all_eq_true_iff_forall_mem.1 h3 e (by simpa using he)
  simpa [hb] using this
theorem ready_of {ops : Array Oper} {listed : Array Bool} {i : Nat} (h1 : i < ops.size) (h2 : listed.getD i true = false) (h3 : ∀ j ∈ deps ops i, listed.getD j false = true) : i ∈ Region.ready .any ops listed := by
  simp only [Region.ready, List.mem_filter, List.mem_range, Bool.and_eq_true, Bool.not_eq_true']
  refine ⟨h1, h2, ?_⟩
  unfold deps at h3
  rw [Array.getElem?_eq_getElem h1] at h3 ⊢
  simp only [Option.map_some, Option.getD_some]
  refine Array.all_eq_true_iff_forall_mem.2 fun e he => ?_
  cases hb : Region.binds .any e with
  | false => rfl
  | true => simpa using h3 e.on (List.mem_map.2 ⟨e, List.mem_filter.2 ⟨by simpa using he, hb⟩, rfl⟩)
def unlisted (listed : Array Bool) (n : Nat) : Nat := (List.range n).countP fun i => !listed.getD i false
theorem unlisted_set {listed : Array Bool} {n i : Nat} (hs : listed.size = n) (hi : i < n) (h : listed.getD i false = false) : unlisted (listed.setIfInBounds i true) n + 1 = unlisted listed n := by
  unfold unlisted
  have hsplit : List.range n = List.range i ++ i :: (List.range' (i + 1) (n - i - 1)) := by
    rw [List.range_eq_range', List.range_eq_range', show i :: List.range' (i + 1) (n - i - 1) = List.range' i (n - i - 1 + 1) from by rw [List.range'_succ], show n - i - 1 + 1 = n - i from by omega]
    have := List.range'_append (s := 0) (m := i) (n := n - i) (step := 1)
    simp only [Nat.one_mul, Nat.zero_add] at this
    rw [this, show i + (n - i) = n from by omega]
  have hsame : ∀ j, j ≠ i → (listed.setIfInBounds i true).getD j false = listed.getD j false := fun j hj => by
    simp only [Array.getD_eq_getD_getElem?, Array.getElem?_setIfInBounds]
    rw [if_neg (fun e => hj e.symm)]
  have hsame2 : (listed.setIfInBounds i true).getD i false = true := by
    simp only [Array.getD_eq_getD_getElem?, Array.getElem?_setIfInBounds]
    rw [if_pos trivial, if_pos (by omega)]; rfl
  rw [hsplit, List.countP_append, List.countP_append, List.countP_cons, List.countP_cons, hsame2, h]
  have e1 : (List.range i).countP (fun j => !(listed.setIfInBounds i true).getD j false) = (List.range i).countP (fun j => !listed.getD j false) :=
    List.countP_congr fun j hj => by rw [hsame j (by have := List.mem_range.1 hj; omega)]
  have e2 : (List.range' (i + 1) (n - i - 1)).countP (fun j => !(listed.setIfInBounds i true).getD j false) = (List.range' (i + 1) (n - i - 1)).countP (fun j => !listed.getD j false) :=
    List.countP_congr fun j hj => by rw [hsame j (by have := (List.mem_range'.1 hj); obtain ⟨x, hx, rfl⟩ := this; omega)]
  rw [e1, e2]
  simp; omega
/-- In whatever order: what the text comes to. -/
theorem any_of {ops : Array Oper} {tr : List Tr} {s0 : Sf} {Q : Exit → Act → World → Prop} (hlen : tr.length = ops.size) (hord : ordB ops tr = true)
    (hT : ∀ i, i < ops.size → LocalI c F nn ops i (stAt s0 (fun j => tr.getD j default) (fun _ => true) i) (tr.getD i default))
    (hcl : ∀ i, i < ops.size → Cl (stAt s0 (fun j => tr.getD j default) (fun _ => true) i))
    (hfin : ∀ e a w, Real c (stAt s0 (fun j => tr.getD j default) (fun _ => true) ops.size) e a w → Q .normal a w) :
    ∀ (fuel : Nat) (listed : Array Bool) (e : Env) (a : Act) (w : World), listed.size = ops.size → unlisted listed ops.size ≤ fuel → Shut ops (fun j => listed.getD j false) →
      Real c (stAt s0 (fun j => tr.getD j default) (fun j => listed.getD j false) ops.size) e a w → wpAnyIn F nn c.P .any ops Q fuel listed a w := by
  obtain ⟨hconf, hdown⟩ := ordB_spec hord
  have hget : ∀ (l : Array Bool) i, i < ops.size → l.size = ops.size → l.getD i true = l.getD i false := fun l i hi hl => by
    simp [Array.getD_eq_getD_getElem?, Array.getElem?_eq_getElem (show i < l.size by omega)]
  have hdone : ∀ (listed : Array Bool) (e : Env) (a : Act) (w : World), listed.size = ops.size → (∀ i, i < ops.size → listed.getD i false = true) → Real c (stAt s0 (fun j => tr.getD j default) (fun j => listed.getD j false) ops.size) e a w → Q .normal a w := by
    intro listed e a w hs hall hR
    refine hfin e a w ?_
    have : stAt s0 (fun j => tr.getD j default) (fun j => listed.getD j false) ops.size = stAt s0 (fun j => tr.getD j default) (fun _ => true) ops.size := by
      funext q; exact stAt_congr _ fun k hk _ => hall k hk
    rw [← this]; exact hR
  intro fuel
  induction fuel with
  | zero =>
    intro listed e a w hs hu hsh hR
    have hall : ∀ i, i < ops.size → listed.getD i false = true := fun i hi => by
      have h0 : unlisted listed ops.size = 0 := by omega
      have := List.countP_eq_zero.1 h0 i (List.mem_range.2 hi)
      simpa using this
    refine ⟨?_, hdone listed e a w hs hall hR⟩
    cases hr : Region.ready .any ops listed with
    | nil => rfl
    | cons i r =>
      have := ready_iff (show i ∈ Region.ready .any ops listed from by rw [hr]; exact List.mem_cons_self)
      rw [hget listed i this.1 hs, hall i this.1] at this
      exact absurd this.2.1 (by simp)
  | succ fuel ih =>
    intro listed e a w hs hu hsh hR
    refine ⟨fun hnil => hdone listed e a w hs (fun i => ?_) hR, fun i hi => ?_⟩
    · induction i using Nat.strongRecOn with
      | _ i ihi =>
        intro hi
        cases hl : listed.getD i false with
        | true => rfl
        | false =>
          have : i ∈ Region.ready .any ops listed := ready_of hi (by rw [hget listed i hi hs, hl]) (fun j hj => ihi j (hdown i j hj) (by have := hdown i j hj; omega))
          rw [hnil] at this; cases this
    · obtain ⟨hin, hno, hdeps⟩ := ready_iff hi
      rw [hget listed i hin hs] at hno
      have hmeet : ∀ k, k < ops.size → k ≠ i → conf (tr.getD k default) (tr.getD i default) = true → listed.getD k false = decide (k < i) := by
        intro k hk hne hc
        by_cases hlt : k < i
        · have h1 := hconf i k hlt (by omega) hc
          rw [reach_sound hsh _ _ _ h1 hdeps]; simp [hlt]
        · have h1 := hconf k i (by omega) (by omega) (conf_comm hc)
          cases hl : listed.getD k false with
          | false => simp [hlt]
          | true =>
            have := reach_sound hsh _ _ _ h1 (fun j hj => hsh k hl j hj)
            simp only [hno] at this; cases this
      refine hT i hin (hcl i hin) Q _ e a w _ ?_ hR ?_
      · intro q hq
        have e1 : stAt s0 (fun j => tr.getD j default) (fun j => listed.getD j false) ops.size q = stAt s0 (fun j => tr.getD j default) (fun j => decide (j < i)) ops.size q := by
          refine stAt_congr _ fun k hk hw => ?_
          by_cases hne : k = i
          · subst hne; simp [hno]
          · exact hmeet k hk hne (by simp only [conf, rdMeet_of hw hq, Bool.true_or])
        rw [e1]
        have e2 : ∀ n, i + n ≤ ops.size → stAt s0 (fun j => tr.getD j default) (fun j => decide (j < i)) (i + n) q = stAt s0 (fun j => tr.getD j default) (fun j => decide (j < i)) i q := by
          intro n
          induction n with
          | zero => intro _; rfl
          | succ n ihn =>
            intro hn
            show (bif decide (i + n < i) then _ else _ : Sf) q = _
            rw [show decide (i + n < i) = false from by simp]
            exact ihn (by omega)
        have e3 := e2 (ops.size - i) (by omega)
        rw [show i + (ops.size - i) = ops.size from by omega] at e3
        rw [e3]
        exact stAt_congr _ fun k hk _ => by simp [hk]
      · intro e' a' w' hR'
        have hE : ∀ j, (listed.setIfInBounds i true).getD j false = (decide (j = i) || listed.getD j false) := fun j => by
          by_cases hj : j = i
          · subst hj; simp [Array.getD_eq_getD_getElem?, Array.getElem?_setIfInBounds, hs, hin]
          · simp only [Array.getD_eq_getD_getElem?, Array.getElem?_setIfInBounds]
            rw [if_neg (fun e => hj e.symm)]; simp [hj]
        refine ih (listed.setIfInBounds i true) e' a' w' (by simpa using hs) (by have := unlisted_set hs hin hno; omega) ?_ ?_
        · intro j hj k hk
          simp only [hE, Bool.or_eq_true, decide_eq_true_eq] at hj ⊢
          rcases hj with rfl | hj
          · exact .inr (hdeps k hk)
          · exact .inr (hsh j hj k hk)
        · have hst : upd (stAt s0 (fun j => tr.getD j default) (fun j => listed.getD j false) ops.size) (tr.getD i default).ws = stAt s0 (fun j => tr.getD j default) (fun j => (listed.setIfInBounds i true).getD j false) ops.size := by
            funext q
            cases hw : lookW (tr.getD i default).ws q with
            | none =>
              simp only [upd, hw, Option.none_or]
              refine stAt_congr _ fun k hk hk2 => ?_
              rw [hE]
              by_cases hki : k = i
              · subst hki; rw [hw] at hk2; cases hk2
              · simp [hki]
            | some x =>
              simp only [upd, hw, Option.some_or]
              have e1 : stAt s0 (fun j => tr.getD j default) (fun j => (listed.setIfInBounds i true).getD j false) ops.size q = stAt s0 (fun j => tr.getD j default) (fun j => decide (j ≤ i)) ops.size q := by
                refine stAt_congr _ fun k hk hk2 => ?_
                rw [hE]
                by_cases hki : k = i
                · subst hki; simp
                · have := hmeet k hk hki (by
                    simp only [conf]
                    rw [keysMeet_of hk2 (show q ∈ (tr.getD i default).ws.map (·.1) from List.mem_map.2 ⟨_, look_mem hw, rfl⟩)]; simp)
                  rw [this]
                  by_cases hlt : k < i
                  · simp [hlt, show k ≤ i from by omega]
                  · simp [hki, show ¬ k ≤ i from by omega, hlt]
              have e2 : ∀ n, i + 1 + n ≤ ops.size → stAt s0 (fun j => tr.getD j default) (fun j => decide (j ≤ i)) (i + 1 + n) q = stAt s0 (fun j => tr.getD j default) (fun j => decide (j ≤ i)) (i + 1) q := by
                intro n
                induction n with
                | zero => intro _; rfl
                | succ n ihn =>
                  intro hn
                  show (bif decide (i + 1 + n ≤ i) then _ else _ : Sf) q = _
                  rw [show decide (i + 1 + n ≤ i) = false from by simp; omega]
                  exact ihn (by omega)
              have e3 := e2 (ops.size - (i + 1)) (by omega)
              rw [show i + 1 + (ops.size - (i + 1)) = ops.size from by omega] at e3
              rw [e1, e3]
              simp only [stAt, show decide (i ≤ i) = true from by simp, cond_true, upd, hw, Option.some_or]
          rw [← hst]; exact hR'
/-- What an operation may come to, it comes to. -/
theorem wpOpIn_ex {P : Program} {ops : Array Oper} {i : Nat} {K : Act → World → Prop} {a : Act} {w : World} (hr : ∀ k, F.room k) (h : wpOpIn F nn P ops (fun _ _ _ => False) i K a w) : ∃ a' w', K a' w' := by
  unfold wpOpIn at h
  split at h
  · exact ⟨_, _, h⟩
  · rename_i o ho
    split at h
    · unfold Oper.wpIn at h
      have h := h.2
      unfold Oper.uponIn at h
      split at h
      · exact ⟨_, _, h⟩
      · exact ⟨_, _, h⟩
      · exact ⟨_, _, h⟩
      · obtain ⟨e, w', fr, hR, _⟩ := h.2.2 [] (hr _)
        cases e with
        | returned v => exact ⟨_, _, hR⟩
        | panicked ch => exact hR.elim
        | outgrown => obtain ⟨_, _, hq⟩ := hR; exact hq.elim
      · obtain ⟨v, w', hR, _⟩ := h.2 default [] (hr _)
        exact ⟨_, _, hR⟩
      · obtain ⟨e, w', hR, _⟩ := h.2.2 default [] (hr _)
        cases e with
        | returned v => exact ⟨_, _, hR⟩
        | panicked ch => exact hR.elim
        | outgrown => obtain ⟨_, _, hq⟩ := hR; exact hq.elim
      · exact h.elim
      · exact h.elim
    · exact ⟨_, _, h.2⟩
/-- The states of the text are met. -/
theorem met {ops : Array Oper} {tr : List Tr} {s0 : Sf} (hr : ∀ k, F.room k) (hT : ∀ i, i < ops.size → LocalI c F nn ops i (stAt s0 (fun j => tr.getD j default) (fun _ => true) i) (tr.getD i default)) {e : Env} {a : Act} {w : World} (hR : Real c s0 e a w) :
    ∀ i, i ≤ ops.size → ∃ e a w, Real c (stAt s0 (fun j => tr.getD j default) (fun _ => true) i) e a w
  | 0, _ => ⟨e, a, w, hR⟩
  | i + 1, hi => by
    obtain ⟨e, a, w, h⟩ := met hr hT hR i (by omega)
    have h1 := hT i (by omega) h.W.cl (fun _ _ _ => False) _ e a w (fun a' w' => ∃ e', Real c (stAt s0 (fun j => tr.getD j default) (fun _ => true) (i + 1)) e' a' w') (fun _ _ => rfl) h (fun e' a' w' h' => ⟨e', by simpa [stAt] using h'⟩)
    obtain ⟨a', w', e', h2⟩ := wpOpIn_ex hr h1
    exact ⟨e', a', w', h2⟩
/-- In the order of the text. -/
theorem text_of {ops : Array Oper} {tr : List Tr} {s0 : Sf} {Q : Exit → Act → World → Prop} (hT : ∀ i, i < ops.size → LocalI c F nn ops i (stAt s0 (fun j => tr.getD j default) (fun _ => true) i) (tr.getD i default))
    (hfin : ∀ e a w, Real c (stAt s0 (fun j => tr.getD j default) (fun _ => true) ops.size) e a w → Q .normal a w) :
    ∀ (n i : Nat) (e : Env) (a : Act) (w : World), i + n = ops.size → Real c (stAt s0 (fun j => tr.getD j default) (fun _ => true) i) e a w → wpOpsIn F nn c.P ops Q (List.range' i n) a w
  | 0, i, e, a, w, hi, hR => hfin e a w (by rw [← hi]; exact hR)
  | n + 1, i, e, a, w, hi, hR => by
    rw [List.range'_succ, wpOpsIn_cons]
    refine hT i (by omega) hR.W.cl Q _ e a w _ (fun _ _ => rfl) hR fun e' a' w' hR' => text_of hT hfin n (i + 1) e' a' w' (by omega) ?_
    simpa [stAt] using hR'
/-- The first i operations have been gone through. -/
inductive Pre (c : Ctx) (F : Fence) (nn : Nat) (ops : Array Oper) (σ0 : Sf) : Nat → Sf → List Tr → Prop
  | nil : Pre c F nn ops σ0 0 σ0 []
  | cons {i : Nat} {σ : Sf} {tr : List Tr} {t : Tr} : Pre c F nn ops σ0 i σ tr → i < ops.size → LocalI c F nn ops i σ t → Pre c F nn ops σ0 (i + 1) (upd σ t.ws) (t :: tr)
theorem Pre.spec {ops : Array Oper} {σ0 : Sf} {i : Nat} {σ : Sf} {tr : List Tr} (h : Pre c F nn ops σ0 i σ tr) :
    tr.length = i ∧ i ≤ ops.size ∧ σ = stAt σ0 (fun j => tr.reverse.getD j default) (fun _ => true) i ∧ ∀ j, j < i → LocalI c F nn ops j (stAt σ0 (fun j => tr.reverse.getD j default) (fun _ => true) j) (tr.reverse.getD j default) := by
  induction h with
  | nil => exact ⟨rfl, Nat.zero_le _, rfl, fun j hj => absurd hj (by omega)⟩
  | @cons i σ tr t hp hlt0 hl ih =>
    obtain ⟨h1, h1', h2, h3⟩ := ih
    have hlt : ∀ k, k < i → tr.reverse.getD k default = (t :: tr).reverse.getD k default := fun k hk => by
      simp only [List.reverse_cons, List.getD_eq_getElem?_getD]
      rw [List.getElem?_append_left (by simp; omega)]
    have hat : (t :: tr).reverse.getD i default = t := by
      simp only [List.reverse_cons, List.getD_eq_getElem?_getD]
      rw [List.getElem?_append_right (by simp; omega)]
      simp [h1]
    have hst : ∀ j, j ≤ i → stAt σ0 (fun j => (t :: tr).reverse.getD j default) (fun _ => true) j = stAt σ0 (fun j => tr.reverse.getD j default) (fun _ => true) j := fun j hj =>
      stAt_tr j fun k hk => (hlt k (by omega)).symm
    refine ⟨by simp [h1], by omega, ?_, ?_⟩
    · simp only [stAt, cond_true]
      rw [hst i (Nat.le_refl _), ← h2, hat]
    · intro j hj
      rw [hst j (by omega)]
      by_cases hji : j = i
      · subst hji; rw [hat, ← h2]; exact hl
      · rw [← hlt j (by omega)]; exact h3 j (by omega)
/-- What is owed of a region's rest. -/
structure RW (c : Ctx) (F : Fence) (nn : Nat) (id : Nat) (ops : Array Oper) (draw : Bool) (Q : Exit → Act → World → Prop) (σ0 : Sf) (i : Nat) (rest : List Oper) (σ : Sf) (tr : List Tr) : Prop where
  go : (∀ j, rest[j]? = ops[i + j]?) → Pre c F nn ops σ0 i σ tr → ∀ e a w, Real c σ0 e a w → (Code.region id ops draw).wpIn F nn c.P Q a w
structure CW (c : Ctx) (F : Fence) (nn : Nat) (code : Code) (Q : Exit → Act → World → Prop) (σ : Sf) : Prop where
  go : ∀ e a w, Real c σ e a w → code.wpIn F nn c.P Q a w
structure KW (c : Ctx) (K : Act → World → Prop) (σ : Sf) : Prop where
  go : ∀ e a w, Real c σ e a w → K a w
theorem RealW.drawn {s : Sf} {e : Env} {w : World} (h : RealW c s e w) (n : Nat) : RealW c s e { w with drawn := n } :=
  ⟨h.blk, h.sep, h.own, h.cl, h.given, h.os, h.tape, h.output, h.size, h.old⟩
theorem Real.drawn {s : Sf} {e : Env} {a : Act} {w : World} (h : Real c s e a w) (n : Nat) : Real c s e a { w with drawn := n } :=
  ⟨h.W.drawn n, h.defers, h.fml, h.slots, h.tmp⟩
theorem RW_end_draw {id : Nat} {ops : Array Oper} {Q : Exit → Act → World → Prop} {σ0 σ : Sf} {i : Nat} {tr : List Tr} (hr : ∀ k, F.room k) (hm : c.P.follows .mixedOrders = true) (ho : ordB ops tr.reverse = true) (hK : KW c (Q .normal) σ) :
    RW c F nn id ops true Q σ0 i [] σ tr := by
  refine ⟨?_⟩
  intro hrest hpre e a w hR
  obtain ⟨h1, h1', h2, h3⟩ := hpre.spec
  have hi : i = ops.size := by
    have := hrest 0
    simp at this
    omega
  subst hi
  refine wpIn_region_any hm ?_
  refine any_of (tr := tr.reverse) (s0 := σ0) (by simpa using h1) ho h3 (fun i hi => by obtain ⟨e', a', w', h⟩ := met hr h3 hR i (by omega); exact h.W.cl) (fun e' a' w' hR' => hK.go e' a' w' (by rw [h2]; exact hR')) ops.size (Array.replicate ops.size false) e a _ (by simp) ?_ ?_ ?_
  · exact Nat.le_trans List.countP_le_length (by simp)
  · intro j hj
    simp only [Array.getD_eq_getD_getElem?] at hj
    by_cases hlt : j < ops.size
    · simp [hlt] at hj
    · simp [hlt] at hj
  · have e : stAt σ0 (fun j => tr.reverse.getD j default) (fun j => (Array.replicate ops.size false).getD j false) ops.size = σ0 := by
      have : ∀ n, stAt σ0 (fun j => tr.reverse.getD j default) (fun j => (Array.replicate ops.size false).getD j false) n = σ0 := by
        intro n
        induction n with
        | zero => rfl
        | succ n ih =>
          simp only [stAt]
          rw [show (Array.replicate ops.size false).getD n false = false from by
            simp only [Array.getD_eq_getD_getElem?]
            by_cases hlt : n < ops.size <;> simp [hlt]]
          exact ih
      exact this _
    rw [e]; exact hR.drawn _
theorem RW_end {id : Nat} {ops : Array Oper} {Q : Exit → Act → World → Prop} {σ0 σ : Sf} {i : Nat} {tr : List Tr} (hK : KW c (Q .normal) σ) :
    RW c F nn id ops false Q σ0 i [] σ tr := by
  refine ⟨?_⟩
  intro hrest hpre e a w hR
  obtain ⟨h1, h1', h2, h3⟩ := hpre.spec
  obtain rfl : i = ops.size := by
    have := hrest 0
    simp at this
    omega
  refine wpIn_region ?_
  have := text_of (tr := tr.reverse) (s0 := σ0) (Q := Q) h3 (fun e' a' w' hR' => hK.go e' a' w' (by rw [h2]; exact hR')) ops.size 0 e a w (by omega) hR
  rw [List.range_eq_range']; exact this
theorem CW_region {id : Nat} {ops : Array Oper} {draw : Bool} {Q : Exit → Act → World → Prop} {σ : Sf} {l : List Oper} (hl : ops.toList = l) (h : RW c F nn id ops draw Q σ 0 l σ []) : CW c F nn (.region id ops draw) Q σ :=
  ⟨h.go (fun j => by rw [← hl]; simp) Pre.nil⟩
theorem RW_step {id : Nat} {ops : Array Oper} {draw : Bool} {Q : Exit → Act → World → Prop} {σ0 σ : Sf} {i : Nat} {o : Oper} {rest : List Oper} {tr : List Tr} {t : Tr}
    (hL : ops[i]? = some o → LocalI c F nn ops i σ t) (h : RW c F nn id ops draw Q σ0 (i + 1) rest (upd σ t.ws) (t :: tr)) : RW c F nn id ops draw Q σ0 i (o :: rest) σ tr := by
  refine ⟨?_⟩
  intro hrest hpre
  have ho : ops[i]? = some o := by
    have := hrest 0
    simpa using this.symm
  refine h.go (fun j => ?_) (hpre.cons (Array.getElem?_eq_some_iff.1 ho).1 (hL ho))
  have := hrest (j + 1)
  rw [show i + 1 + j = i + (j + 1) from by omega]; simpa using this
end
end Go.Proofs.Ytnmkpekfkfckoaa.EV
namespace Go.Proofs.Ytnmkpekfkfckoaa.EV
open Go.RowKit
section
variable {s s' : Sf} {e e' : Env}
theorem Rep.congr {x : C} {u : Value} (h : ∀ n ∈ x.names, e.same e' n) (hr : Rep e x u) : Rep e' x u := by
  cases x with
  | v x => exact hr
  | p n o => obtain ⟨h1, h2, h3⟩ := h n (by simp [C.names]); simp only [Rep, ← h1, ← h2] at hr ⊢; exact hr
  | s n o l k => obtain ⟨h1, h2, h3⟩ := h n (by simp [C.names]); simp only [Rep, ← h1, ← h2] at hr ⊢; exact hr
  | g n o l b k => obtain ⟨h1, h2, h3⟩ := h n (by simp [C.names]); simp only [Rep, ← h1, ← h2, ← h3] at hr ⊢; exact hr
  | f g caps =>
    simp only [Rep] at hr ⊢
    rw [hr]
    congr 2
    exact List.map_congr_left fun q hq => by
      obtain ⟨h1, h2, h3⟩ := h q.1 (by simp only [C.names]; exact List.mem_map.2 ⟨q, hq, rfl⟩)
      rw [h1, h2]
  | y n => obtain ⟨h1, h2, h3⟩ := h n (by simp [C.names]); simp only [Rep, ← h1] at hr ⊢; exact hr
/-- A name that means the same, and may be used no more than before. -/
def Mo (s : Sf) (e : Env) (s' : Sf) (e' : Env) (n : Nat) : Prop := (live s' n → live s n) ∧ e.same e' n
theorem Ok.mono {x : C} {u : Value} (h : ∀ n ∈ x.names, Mo s e s' e' n) (hr : Ok s e x u) : Ok s' e' x u :=
  fun hn => (hr fun n hm => (h n hm).1 (hn n hm)).congr fun n hm => (h n hm).2
theorem Okc.mono {x : C} {u : Value} (h : ∀ n ∈ x.names, Mo s e s' e' n) (hr : Okc s e x u) : Okc s' e' x u := ⟨hr.one, hr.ok.mono h⟩
theorem OkL.mono : ∀ {l : List C} {us : List Value}, (∀ n ∈ l.flatMap C.names, Mo s e s' e' n) → OkL s e l us → OkL s' e' l us
  | [], _, _, h => h
  | x :: l, _, hn, ⟨u, r, hu, h1, h2⟩ => ⟨u, r, hu, h1.mono fun n hm => hn n (by simp [List.flatMap_cons, hm]), h2.mono fun n hm => hn n (by rw [List.flatMap_cons]; exact List.mem_append_right _ hm)⟩
theorem OkP.mono {x : C ⊕ List C} {u : Value} (hn : ∀ n ∈ namesP x, Mo s e s' e' n) (h : OkP s e x u) : OkP s' e' x u := by
  cases x with
  | inl x => exact Ok.mono hn h
  | inr l => obtain ⟨us, hu, hl⟩ := h; exact ⟨us, hu, hl.mono hn⟩
theorem OkT.mono : ∀ {l : List (C ⊕ List C)} {us : List Value}, (∀ n ∈ l.flatMap namesP, Mo s e s' e' n) → OkT s e l us → OkT s' e' l us
  | [], _, _, h => h
  | x :: l, _, hn, ⟨u, r, hu, h1, h2⟩ => ⟨u, r, hu, h1.mono fun n hm => hn n (by simp [List.flatMap_cons, hm]), h2.mono fun n hm => hn n (by rw [List.flatMap_cons]; exact List.mem_append_right _ hm)⟩
theorem OkV.mono {v : V} {u : Value} (hn : ∀ n ∈ v.names, Mo s e s' e' n) (h : OkV s e v u) : OkV s' e' v u := by
  cases v with
  | c x => exact Ok.mono hn h
  | a l => obtain ⟨us, hu, hl⟩ := h; exact ⟨us, hu, hl.mono hn⟩
  | t l => obtain ⟨us, hu, hl⟩ := h; exact ⟨us, hu, hl.mono hn⟩
theorem OkL.length : ∀ {l : List C} {us : List Value}, OkL s e l us → us.length = l.length
  | [], _, h => by rw [h]; rfl
  | x :: l, _, ⟨u, r, hu, _, h2⟩ => by rw [hu]; simp [h2.length]
theorem OkL.get : ∀ {l : List C} {us : List Value} {i : Nat} {x : C}, OkL s e l us → l[i]? = some x → ∃ u, us[i]? = some u ∧ Okc s e x u
  | [], _, _, _, _, hx => by simp at hx
  | y :: l, _, 0, x, ⟨u, r, hu, h1, _⟩, hx => by
    simp only [List.getElem?_cons_zero, Option.some.injEq] at hx
    subst hx; rw [hu]; exact ⟨u, rfl, h1⟩
  | y :: l, _, i + 1, x, ⟨u, r, hu, _, h2⟩, hx => by
    rw [hu]; simpa using h2.get (i := i) (by simpa using hx)
theorem OkL.mk : ∀ {l : List C} {us : List Value}, us.length = l.length → (∀ (i : Nat) (x : C), l[i]? = some x → ∃ u, us[i]? = some u ∧ Okc s e x u) → OkL s e l us
  | [], us, h, _ => List.eq_nil_of_length_eq_zero h
  | x :: l, [], h, _ => by simp at h
  | x :: l, u :: us, h, hx => by
    refine ⟨u, us, rfl, ?_, OkL.mk (by simpa using h) fun i y hy => by simpa using hx (i + 1) y (by simpa using hy)⟩
    obtain ⟨u', h1, h2⟩ := hx 0 x rfl
    simp at h1; subst h1; exact h2
theorem OkL.plain : ∀ (l : List Value), l.all (·.oneCell') = true → OkL s e (l.map C.v) l
  | [], _ => rfl
  | x :: l, h => by
    simp only [List.all_cons, Bool.and_eq_true] at h
    exact ⟨x, l, rfl, ⟨h.1, fun _ => rfl⟩, OkL.plain l h.2⟩
theorem OkL.eq : ∀ {l : List Value} {us : List Value}, OkL s e (l.map C.v) us → us = l
  | [], _, h => h
  | x :: l, _, ⟨u, r, hu, h1, h2⟩ => by
    have : u = x := h1.ok (fun n hn => by simp [C.names] at hn)
    rw [hu, this, h2.eq]
theorem plain_names (l : List Value) : (l.map C.v).flatMap C.names = [] := by induction l with
  | nil => rfl
  | cons x l ih => simp [List.flatMap_cons, C.names, ih]
theorem Ok.plain {x u : Value} (h : Ok s e (.v x) u) : u = x := h (fun n hn => by simp [C.names] at hn)
theorem Ok.of {x : Value} : Ok s e (.v x) x := fun _ => rfl
theorem MOk.mono {w w' : World} {n : Nat} {own : Bool} {l : List C} (hl : ∀ m ∈ l.flatMap C.names, Mo s e s' e' m) (hn : e.same e' n) (hw : e.rm n ≠ 0 → w'.heap[e.id n]? = w.heap[e.id n]?) (h : MOk s e w n own l) : MOk s' e' w' n own l := by
  obtain ⟨h1, h2⟩ := h
  refine ⟨by rw [← hn.rm]; exact h1, ?_⟩
  rw [← hn.rm, ← hn.id, ← hn.bs]
  rcases h2 with h2 | ⟨cs, ty, fz, a, b, c, d⟩
  · exact .inl h2
  · by_cases h0 : e.rm n = 0
    · exact .inl h0
    · refine .inr ⟨cs, ty, fz, (hw h0).trans a, b, c, fun i x hx => ?_⟩
      obtain ⟨u, hu, hk⟩ := d i x hx
      exact ⟨u, hu, hk.mono fun m hm => hl m (List.mem_flatMap.2 ⟨x, List.mem_of_getElem? hx, hm⟩)⟩
theorem BOk.mono {w w' : World} {n : Nat} {b : B} (hl : ∀ m ∈ b.names, Mo s e s' e' m) (hn : e.same e' n) (hw : e.rm n ≠ 0 → w'.heap[e.id n]? = w.heap[e.id n]?) (h : BOk s e w n b) : BOk s' e' w' n b := by
  cases b with
  | m o l => exact MOk.mono hl hn hw h
  | w o l => exact MOk.mono (fun m hm => by rw [plain_names] at hm; cases hm) hn hw h
  | lp r =>
    obtain ⟨h1, fn, tm, h2, h3, h4⟩ := h
    refine ⟨by rw [← hn.rm]; exact h1, fn, tm, ?_, h3, fun i v hv => ?_⟩
    · rw [← hn.id, hw (by omega), h2, ((hl r.D (by simp [B.names])).2).id]
    · obtain ⟨u, hu, hk⟩ := h4 i v hv
      exact ⟨u, hu, hk.mono fun m hm => hl m (by simp only [B.names, List.mem_cons]; exact .inr (List.mem_flatMap.2 ⟨_, hv, hm⟩))⟩
  | df =>
    obtain ⟨h1, h2⟩ := h
    exact ⟨by rw [← hn.rm]; exact h1, by rw [← hn.id, hw (by omega)]; exact h2⟩
end
section
variable {c : Ctx} {s s' : Sf} {e e' : Env} {a : Act} {w w' : World}
theorem BOk.lt {n : Nat} {b : B} (h : BOk s e w n b) (h0 : e.rm n ≠ 0) : e.id n < w.heap.size := by
  have key : ∀ {x : Obj}, w.heap[e.id n]? = some x → e.id n < w.heap.size := fun h => (Array.getElem?_eq_some_iff.1 h).1
  cases b with
  | m o l => obtain ⟨_, h1 | ⟨cs, ty, fz, h1, _⟩⟩ := h; exact absurd h1 h0; exact key h1
  | w o l => obtain ⟨_, h1 | ⟨cs, ty, fz, h1, _⟩⟩ := h; exact absurd h1 h0; exact key h1
  | lp r => obtain ⟨_, _, tm, h1, _⟩ := h; exact key h1
  | df => exact key h.2
theorem upd_append (s : Sf) : ∀ (x y : Ws), upd s (x ++ y) = upd (upd s y) x
  | [], y => by funext q; simp [upd, lookW]
  | (k, v) :: x, y => by
    funext q
    rw [List.cons_append, upd_cons, upd_cons, upd_append s x y]
theorem Cl.upd_t (h : Cl s) {d : Tmp} {v : V} (hn : ∀ n ∈ v.names, s (.l n) ≠ none) : Cl (upd s [(.t d, .v v)]) := by
  refine ⟨fun q x hx n hm => ?_, fun n hx => ?_⟩
  · rw [upd_cons_ne _ _ _ (by simp), upd_nil]
    rw [upd_cons] at hx
    split at hx
    · cases hx; exact hn n hm
    · rw [upd_nil] at hx; exact h.1 q x hx n hm
  · rw [upd_cons_ne _ _ _ (by simp), upd_nil] at hx ⊢
    exact h.2 n hx
/-- Slots do not matter to the world. -/
theorem RealW.slots (h : RealW c s e w) (hb : ∀ n, s' (.b n) = s (.b n)) (hl : ∀ n, s' (.l n) = s (.l n)) (hc : Cl s') : RealW c s' e w := by
  have hv : ∀ n, live s' n → live s n := fun n hn => by unfold live at *; rw [← hl]; exact hn
  refine ⟨fun n b h1 h2 => ?_, fun n n' b b' h1 h2 h3 h4 => ?_, fun n b h1 h2 => ?_, hc, h.given, h.os, h.tape, h.output, h.size, h.old⟩
  · rw [hl] at h1; rw [hb] at h2
    exact (h.blk n b h1 h2).mono (fun m _ => ⟨hv m, .rfl⟩) .rfl (fun _ => rfl)
  · rw [hl] at h1 h3; rw [hb] at h2 h4; exact h.sep n n' b b' h1 h2 h3 h4
  · rw [hl] at h1; rw [hb] at h2; exact h.own n b h1 h2
theorem Real.put (h : Real c s e a w) {d : Tmp} {v : V} {u : Value} (hd : d < c.N) (hk : OkV s e v u) (hn : ∀ n ∈ v.names, s (.l n) ≠ none) : Real c (upd s [(.t d, .v v)]) e (a.put (some d) u) w := by
  have hb : ∀ n, upd s [(.t d, .v v)] (.b n) = s (.b n) := fun n => by rw [upd_cons_ne _ _ _ (by simp), upd_nil]
  have hl : ∀ n, upd s [(.t d, .v v)] (.l n) = s (.l n) := fun n => by rw [upd_cons_ne _ _ _ (by simp), upd_nil]
  have hv : ∀ n, live (upd s [(.t d, .v v)]) n → live s n := fun n hn => by unfold live at *; rw [← hl]; exact hn
  refine ⟨h.W.slots hb hl (h.W.cl.upd_t hn), h.defers, fun n hn => by rw [hb, hl]; exact h.fml n hn, by simpa [Act.put] using h.slots, fun i x hx => ?_⟩
  simp only [Act.put, Array.getElem?_setIfInBounds]
  rw [upd_cons] at hx
  by_cases hi : d = i
  · subst hi
    rw [if_pos rfl] at hx; cases hx
    rw [if_pos rfl, if_pos (by rw [h.slots]; exact hd)]
    exact ⟨u, rfl, hk.mono fun m _ => ⟨hv m, .rfl⟩⟩
  · rw [if_neg (by simpa using hi), upd_nil] at hx
    rw [if_neg hi]
    obtain ⟨u', h1, h2⟩ := h.tmp i x hx
    exact ⟨u', h1, h2.mono fun m _ => ⟨hv m, .rfl⟩⟩
theorem Real.same (h : Real c s e a w) : Real c (upd s []) e a w := by rw [upd_nil]; exact h
/-- The frame goes on in another world. -/
theorem Real.withW (h : Real c s e a w) (hw : RealW c s' e' w') (ht : ∀ i, s' (.t i) = s (.t i)) (hn : ∀ n, s (.l n) ≠ none → Mo s e s' e' n) (hf : ∀ n ∈ c.fm, s' (.l n) = s (.l n) ∧ s' (.b n) = s (.b n)) : Real c s' e' a w' := by
  have hal : ∀ n ∈ c.fm, s (.l n) ≠ none := fun n hn => by rw [(h.fml n hn).1]; simp
  refine ⟨hw, ?_, fun n hn => by rw [(hf n hn).1, (hf n hn).2]; exact h.fml n hn, h.slots, fun i v hx => ?_⟩
  · rw [h.defers]
    exact List.map_congr_left fun n hm => by rw [(hn n (hal n hm)).2.id]
  · rw [ht] at hx
    obtain ⟨u, h1, h2⟩ := h.tmp i v hx
    exact ⟨u, h1, h2.mono fun m hm => hn m (h.W.cl.1 _ _ hx m hm)⟩
/-- The world moved on, what is named stayed. -/
theorem RealW.on (h : RealW c s e w) (hb : Below w.heap.size w w') : RealW c s e w' := by
  have hB := h.size
  refine ⟨fun n b h1 h2 => ?_, h.sep, h.own, h.cl, h.given, hb.os.trans h.os, hb.tape.trans h.tape, hb.output.trans h.output, Nat.le_trans h.size hb.size, fun k hk ht => (hb.block k (by omega)).trans (h.old k hk ht)⟩
  exact (h.blk n b h1 h2).mono (fun m _ => ⟨id, .rfl⟩) .rfl (fun h0 => hb.block _ ((h.blk n b h1 h2).lt h0))
theorem Real.on (h : Real c s e a w) (hb : Below w.heap.size w w') : Real c s e a w' := ⟨h.W.on hb, h.defers, h.fml, h.slots, h.tmp⟩
/-- The keys of a new block. -/
def wsNew (n : Nat) (b : B) : Ws := [(.l n, .l true), (.b n, .b b)]
theorem wsNew_l {n k : Nat} {b : B} : upd s (wsNew n b) (.l k) = if n = k then some (.l true) else s (.l k) := by
  unfold wsNew; rw [upd_cons, upd_cons_ne _ _ _ (by simp), upd_nil]; simp
theorem wsNew_b {n k : Nat} {b : B} : upd s (wsNew n b) (.b k) = if n = k then some (.b b) else s (.b k) := by
  unfold wsNew; rw [upd_cons_ne _ _ _ (by simp), upd_cons, upd_nil]; simp
theorem wsNew_t {n i : Nat} {b : B} : upd s (wsNew n b) (.t i) = s (.t i) := by
  unfold wsNew; rw [upd_cons_ne _ _ _ (by simp), upd_cons_ne _ _ _ (by simp), upd_nil]
theorem wsNew_live {n k : Nat} {b : B} (h : k ≠ n) : live (upd s (wsNew n b)) k ↔ live s k := by
  unfold live; rw [wsNew_l, if_neg (fun e => h e.symm)]
theorem Cl.new (h : Cl s) {n : Nat} {b : B} (hn : ∀ k ∈ b.names, k = n ∨ s (.l k) ≠ none) : Cl (upd s (wsNew n b)) := by
  have hl : ∀ k, s (.l k) ≠ none → upd s (wsNew n b) (.l k) ≠ none := fun k hk => by
    rw [wsNew_l]; split
    · simp
    · exact hk
  refine ⟨fun q x hx k hm => ?_, fun k hx => ?_⟩
  · unfold wsNew at hx
    rw [upd_cons] at hx
    split at hx
    · cases hx; cases hm
    · rw [upd_cons] at hx
      split at hx
      · cases hx
        rcases hn k hm with rfl | h
        · rw [wsNew_l, if_pos rfl]; simp
        · exact hl k h
      · rw [upd_nil] at hx; exact hl k (h.1 q x hx k hm)
  · rw [wsNew_b] at hx
    split at hx
    · rename_i h; subst h; rw [wsNew_l, if_pos rfl]; simp
    · exact hl k (h.2 k hx)
theorem not_live {n k : Nat} (h : s (.l n) = none) (hk : s (.l k) ≠ none) : k ≠ n := fun e => hk (e ▸ h)
/-- A new block. -/
theorem RealW.new (h : RealW c s e w) {n : Nat} (hm : ¬ c.gv n) (hn : s (.l n) = none) (o : Obj) (r : Nat) {b : B} (hb : BOk (upd s (wsNew n b)) (e.set n w.heap.size 0 r) (w.alloc o) n b) (hnm : ∀ k ∈ b.names, k = n ∨ s (.l k) ≠ none) :
    RealW c (upd s (wsNew n b)) (e.set n w.heap.size 0 r) (w.alloc o) := by
  have hne : ∀ {k}, s (.l k) ≠ none → k ≠ n := fun hk => not_live hn hk
  have hal : ∀ {k x}, s (.l k) = some x → s (.l k) ≠ none := fun h => by rw [h]; simp
  have hmo : ∀ k, k ≠ n → Mo s e (upd s (wsNew n b)) (e.set n w.heap.size 0 r) k := fun k hk => ⟨(wsNew_live hk).1, (Env.set_ne e hk).symm⟩
  refine ⟨?_, ?_, ?_, h.cl.new hnm, ?_, h.os, h.tape, h.output, ?_, ?_⟩
  · intro k b' h1 h2
    by_cases hk : k = n
    · subst hk; rw [wsNew_b, if_pos rfl] at h2; cases h2; exact hb
    · rw [wsNew_l, if_neg (fun e => hk e.symm)] at h1
      rw [wsNew_b, if_neg (fun e => hk e.symm)] at h2
      have hbk := h.blk k b' h1 h2
      exact hbk.mono (fun m hm => hmo m (hne (h.cl.1 _ _ h2 m hm))) (Env.set_ne e hk).symm (fun h0 => by rw [Below.heap_alloc w _ _ (hbk.lt h0)])
  · intro k k' b1 b2 h1 h2 h3 h4 hkk ho
    have other : ∀ {j : Nat} {b' : B}, j ≠ n → upd s (wsNew n b) (.l j) = some (.l true) → upd s (wsNew n b) (.b j) = some (.b b') → s (.l j) = some (.l true) ∧ s (.b j) = some (.b b') := fun hj h1 h2 => by
      rw [wsNew_l, if_neg (fun e => hj e.symm)] at h1
      rw [wsNew_b, if_neg (fun e => hj e.symm)] at h2
      exact ⟨h1, h2⟩
    by_cases hk : k = n
    · subst hk
      obtain ⟨h3', h4'⟩ := other (fun e => hkk e.symm) h3 h4
      have hb2 := h.blk k' b2 h3' h4'
      rw [(Env.set_ne e (fun e => hkk e.symm)).rm, (Env.set_ne e (fun e => hkk e.symm)).id, Env.set_id]
      by_cases h0 : e.rm k' = 0
      · exact .inr (.inl h0)
      · have := hb2.lt h0; exact .inr (.inr (by omega))
    · obtain ⟨h1', h2'⟩ := other hk h1 h2
      by_cases hk' : k' = n
      · subst hk'
        have hb1 := h.blk k b1 h1' h2'
        rw [(Env.set_ne e hk).rm, (Env.set_ne e hk).id, Env.set_id]
        by_cases h0 : e.rm k = 0
        · exact .inl h0
        · have := hb1.lt h0; exact .inr (.inr (by omega))
      · obtain ⟨h3', h4'⟩ := other hk' h3 h4
        rw [(Env.set_ne e hk).rm, (Env.set_ne e hk).id, (Env.set_ne e hk').rm, (Env.set_ne e hk').id]
        exact h.sep k k' b1 b2 h1' h2' h3' h4' hkk ho
  · intro k b' h1 h2 ho
    by_cases hk : k = n
    · subst hk; rw [Env.set_id]; exact .inr (.inl h.size)
    · rw [wsNew_l, if_neg (fun e => hk e.symm)] at h1
      rw [wsNew_b, if_neg (fun e => hk e.symm)] at h2
      rw [(Env.set_ne e hk).rm, (Env.set_ne e hk).id]
      exact h.own k b' h1 h2 ho
  · intro k hk
    exact (Env.set_ne e (fun he => hm (by rw [← he]; exact hk))).trans (h.given k hk)
  · rw [World.size_alloc]; exact Nat.le_succ_of_le h.size
  · intro k hk ht
    rw [Below.heap_alloc w _ k (Nat.lt_of_lt_of_le hk h.size)]
    exact h.old k hk ht
theorem Real.new (h : Real c s e a w) {n : Nat} (hm : ¬ c.gv n) (hn : s (.l n) = none) (o : Obj) (r : Nat) {b : B} (hb : BOk (upd s (wsNew n b)) (e.set n w.heap.size 0 r) (w.alloc o) n b) (hnm : ∀ k ∈ b.names, k = n ∨ s (.l k) ≠ none) :
    Real c (upd s (wsNew n b)) (e.set n w.heap.size 0 r) a (w.alloc o) :=
  h.withW (h.W.new hm hn o r hb hnm) (fun i => wsNew_t) (fun k hk => ⟨(wsNew_live (not_live hn hk)).1, (Env.set_ne e (not_live hn hk)).symm⟩) (fun k hk => by
    have : k ≠ n := not_live hn (by rw [(h.fml k hk).1]; simp)
    rw [wsNew_l, wsNew_b, if_neg (fun e => this e.symm), if_neg (fun e => this e.symm)]; exact ⟨rfl, rfl⟩)
/-- What an own block holds becomes another thing. -/
theorem RealW.chg (h : RealW c s e w) {n : Nat} {b b' : B} (ha : s (.l n) = some (.l true)) (hb : s (.b n) = some (.b b)) (ho : b.own = true) (hr : e.rm n ≠ 0) (hw : ∀ k, k ≠ e.id n → w'.heap[k]? = w.heap[k]?) (hsz : w.heap.size ≤ w'.heap.size)
    (hos : w'.os = w.os) (htape : w'.tape = w.tape) (hout : w'.output = w.output) (hb' : BOk (upd s [(.b n, .b b')]) e w' n b') (hnm : ∀ k ∈ b'.names, s (.l k) ≠ none) : RealW c (upd s [(.b n, .b b')]) e w' := by
  have hl : ∀ k, upd s [(.b n, .b b')] (.l k) = s (.l k) := fun k => by rw [upd_cons_ne _ _ _ (by simp), upd_nil]
  have hbk : ∀ k, upd s [(.b n, .b b')] (.b k) = if n = k then some (.b b') else s (.b k) := fun k => by rw [upd_cons, upd_nil]; simp
  have hv : ∀ k, live (upd s [(.b n, .b b')]) k → live s k := fun k hk => by unfold live at *; rw [← hl]; exact hk
  have hown := h.own n b ha hb ho
  refine ⟨?_, ?_, ?_, ⟨?_, ?_⟩, h.given, hos.trans h.os, htape.trans h.tape, hout.trans h.output, Nat.le_trans h.size hsz, ?_⟩
  · intro k b2 h1 h2
    rw [hl] at h1
    rw [hbk] at h2
    by_cases hk : n = k
    · subst hk; rw [if_pos rfl] at h2; cases h2; exact hb'
    · rw [if_neg hk] at h2
      refine (h.blk k b2 h1 h2).mono (fun m _ => ⟨hv m, .rfl⟩) .rfl (fun h0 => hw _ ?_)
      rcases h.sep n k b b2 ha hb h1 h2 hk ho with h3 | h3 | h3
      · exact absurd h3 hr
      · exact absurd h3 h0
      · exact fun e => h3 e.symm
  · intro k k' b1 b2 h1 h2 h3 h4 hkk ho1
    rw [hl] at h1 h3
    rw [hbk] at h2 h4
    by_cases hk : n = k
    · subst hk
      rw [if_neg hkk] at h4
      exact h.sep n k' b b2 ha hb h3 h4 hkk ho
    · rw [if_neg hk] at h2
      by_cases hk' : n = k'
      · subst hk'
        exact h.sep k n b1 b h1 h2 ha hb hkk ho1
      · rw [if_neg hk'] at h4
        exact h.sep k k' b1 b2 h1 h2 h3 h4 hkk ho1
  · intro k b1 h1 h2 ho1
    rw [hl] at h1
    rw [hbk] at h2
    by_cases hk : n = k
    · subst hk; exact hown
    · rw [if_neg hk] at h2; exact h.own k b1 h1 h2 ho1
  · intro q x hx k hm
    rw [hl]
    rw [upd_cons] at hx
    split at hx
    · cases hx; exact hnm k hm
    · rw [upd_nil] at hx; exact h.cl.1 q x hx k hm
  · intro k hk
    rw [hl]
    rw [hbk] at hk
    split at hk
    · rename_i e; subst e; rw [ha]; simp
    · exact h.cl.2 k hk
  · intro k hk ht
    rw [hw k (fun e => by
      rcases hown with h1 | h1 | h1
      · exact hr h1
      · omega
      · exact ht (e ▸ h1))]
    exact h.old k hk ht
theorem Real.chg (h : Real c s e a w) {n : Nat} {b b' : B} (ha : s (.l n) = some (.l true)) (hb : s (.b n) = some (.b b)) (hdf : b ≠ .df) (ho : b.own = true) (hr : e.rm n ≠ 0) (hw : ∀ k, k ≠ e.id n → w'.heap[k]? = w.heap[k]?) (hsz : w.heap.size ≤ w'.heap.size)
    (hos : w'.os = w.os) (htape : w'.tape = w.tape) (hout : w'.output = w.output) (hb' : BOk (upd s [(.b n, .b b')]) e w' n b') (hnm : ∀ k ∈ b'.names, s (.l k) ≠ none) : Real c (upd s [(.b n, .b b')]) e a w' :=
  h.withW (h.W.chg ha hb ho hr hw hsz hos htape hout hb' hnm) (fun i => by rw [upd_cons_ne _ _ _ (by simp), upd_nil]) (fun k hk => ⟨fun hv => by unfold live at *; rwa [upd_cons_ne _ _ _ (by simp), upd_nil] at hv, .rfl⟩) (fun k hk => by
    have hne : n ≠ k := fun e => by subst e; have := (h.fml n hk).2; rw [hb] at this; cases this; exact hdf rfl
    rw [upd_cons_ne _ _ _ (by simp), upd_nil, upd_cons_ne _ _ _ (by simpa using hne), upd_nil]; exact ⟨rfl, rfl⟩)
/-- A name is given up. -/
theorem RealW.kill (h : RealW c s e w) {n : Nat} : RealW c (upd s [(.l n, .l false)]) e w := by
  have hl : ∀ k, upd s [(.l n, .l false)] (.l k) = if n = k then some (.l false) else s (.l k) := fun k => by rw [upd_cons, upd_nil]; simp
  have hb : ∀ k, upd s [(.l n, .l false)] (.b k) = s (.b k) := fun k => by rw [upd_cons_ne _ _ _ (by simp), upd_nil]
  have hlv : ∀ k, upd s [(.l n, .l false)] (.l k) = some (.l true) → s (.l k) = some (.l true) := fun k hk => by
    rw [hl] at hk; split at hk
    · cases hk
    · exact hk
  have hal : ∀ k, s (.l k) ≠ none → upd s [(.l n, .l false)] (.l k) ≠ none := fun k hk => by
    rw [hl]; split
    · simp
    · exact hk
  refine ⟨fun k b h1 h2 => ?_, fun k k' b b' h1 h2 h3 h4 => ?_, fun k b h1 h2 => ?_, ⟨fun q x hx k hm => ?_, fun k hk => hal k (h.cl.2 k (by rw [← hb]; exact hk))⟩, h.given, h.os, h.tape, h.output, h.size, h.old⟩
  · rw [hb] at h2
    exact (h.blk k b (hlv k h1) h2).mono (fun m _ => ⟨hlv m, .rfl⟩) .rfl (fun _ => rfl)
  · rw [hb] at h2 h4; exact h.sep k k' b b' (hlv _ h1) h2 (hlv _ h3) h4
  · rw [hb] at h2; exact h.own k b (hlv _ h1) h2
  · rw [upd_cons] at hx
    split at hx
    · cases hx; cases hm
    · rw [upd_nil] at hx; exact hal k (h.cl.1 q x hx k hm)
theorem Real.kill (h : Real c s e a w) {n : Nat} {b : B} (hb : s (.b n) = some (.b b)) (hdf : b ≠ .df) : Real c (upd s [(.l n, .l false)]) e a w :=
  h.withW h.W.kill (fun i => by rw [upd_cons_ne _ _ _ (by simp), upd_nil]) (fun k hk => ⟨fun hv => by
    unfold live at *; rw [upd_cons, upd_nil] at hv; split at hv
    · cases hv
    · exact hv, .rfl⟩) (fun k hk => by
    have hne : n ≠ k := fun e => by subst e; have := (h.fml n hk).2; rw [hb] at this; cases this; exact hdf rfl
    rw [upd_cons_ne _ _ _ (by simpa using hne), upd_nil, upd_cons_ne _ _ _ (by simp), upd_nil]; exact ⟨rfl, rfl⟩)
/-- A name takes another one's place, from a cell on. -/
def wsSteal (n m : Nat) (b : B) : Ws := (.l n, .l false) :: wsNew m b
theorem RealW.steal (h : RealW c s e w) {n m o : Nat} {b b' : B} (hm : ¬ c.gv m) (hnm : s (.l m) = none) (ha : s (.l n) = some (.l true)) (hb : s (.b n) = some (.b b)) (ho : b.own = true) (hw : ∀ k, k ≠ e.id n → w'.heap[k]? = w.heap[k]?) (h0 : e.rm n = 0 → w' = w) (hsz : w.heap.size ≤ w'.heap.size)
    (hos : w'.os = w.os) (htape : w'.tape = w.tape) (hout : w'.output = w.output) (hb' : BOk (upd s (wsSteal n m b')) (e.set m (e.id n) (e.bs n + o) (e.rm n - o)) w' m b') (hns : ∀ k ∈ b'.names, s (.l k) ≠ none) :
    RealW c (upd s (wsSteal n m b')) (e.set m (e.id n) (e.bs n + o) (e.rm n - o)) w' := by
  have hne : n ≠ m := fun e => by rw [← e, ha] at hnm; cases hnm
  have hl : ∀ k, upd s (wsSteal n m b') (.l k) = if n = k then some (.l false) else if m = k then some (.l true) else s (.l k) := fun k => by
    unfold wsSteal; rw [upd_cons, wsNew_l]; simp
  have hbk : ∀ k, upd s (wsSteal n m b') (.b k) = if m = k then some (.b b') else s (.b k) := fun k => by
    unfold wsSteal; rw [upd_cons_ne _ _ _ (by simp), wsNew_b]
  have hlv : ∀ k, k ≠ m → upd s (wsSteal n m b') (.l k) = some (.l true) → s (.l k) = some (.l true) ∧ k ≠ n := fun k hk hx => by
    rw [hl] at hx
    by_cases h1 : n = k
    · rw [if_pos h1] at hx; cases hx
    · rw [if_neg h1, if_neg (fun e => hk e.symm)] at hx; exact ⟨hx, fun e => h1 e.symm⟩
  have hal : ∀ k, s (.l k) ≠ none → upd s (wsSteal n m b') (.l k) ≠ none := fun k hk => by
    rw [hl]; split
    · simp
    · split
      · simp
      · exact hk
  have hown := h.own n b ha hb ho
  have hmo : ∀ k, s (.l k) ≠ none → Mo s e (upd s (wsSteal n m b')) (e.set m (e.id n) (e.bs n + o) (e.rm n - o)) k := fun k hk =>
    ⟨fun hx => (hlv k (not_live hnm hk) hx).1, (Env.set_ne e (not_live hnm hk)).symm⟩
  have hsame : ∀ k b2, k ≠ n → s (.l k) = some (.l true) → s (.b k) = some (.b b2) → e.rm k ≠ 0 → w'.heap[e.id k]? = w.heap[e.id k]? := fun k b2 hk h1 h2 hr => by
    rcases h.sep n k b b2 ha hb h1 h2 (fun e => hk e.symm) ho with h3 | h3 | h3
    · rw [h0 h3]
    · exact absurd h3 hr
    · exact hw _ (fun e => h3 e.symm)
  refine ⟨?_, ?_, ?_, ⟨?_, ?_⟩, ?_, hos.trans h.os, htape.trans h.tape, hout.trans h.output, Nat.le_trans h.size hsz, ?_⟩
  · intro k b2 h1 h2
    rw [hbk] at h2
    by_cases hk : m = k
    · subst hk; rw [if_pos rfl] at h2; cases h2; exact hb'
    · rw [if_neg hk] at h2
      obtain ⟨h1, hkn⟩ := hlv k (fun e => hk e.symm) h1
      exact (h.blk k b2 h1 h2).mono (fun j hj => hmo j (h.cl.1 _ _ h2 j hj)) (Env.set_ne e (fun e => hk e.symm)).symm (hsame k b2 hkn h1 h2)
  · intro k k' b1 b2 h1 h2 h3 h4 hkk ho1
    rw [hbk] at h2 h4
    by_cases hk : m = k
    · subst hk
      rw [if_neg hkk] at h4
      obtain ⟨h3, hkn⟩ := hlv k' (fun e => hkk e.symm) h3
      rw [Env.set_rm, Env.set_id, (Env.set_ne e (fun e => hkk e.symm)).rm, (Env.set_ne e (fun e => hkk e.symm)).id]
      rcases h.sep n k' b b2 ha hb h3 h4 (fun e => hkn e.symm) ho with h5 | h5 | h5
      · exact .inl (by omega)
      · exact .inr (.inl h5)
      · exact .inr (.inr h5)
    · rw [if_neg hk] at h2
      obtain ⟨h1, hkn⟩ := hlv k (fun e => hk e.symm) h1
      by_cases hk' : m = k'
      · subst hk'
        rw [Env.set_rm, Env.set_id, (Env.set_ne e hkk).rm, (Env.set_ne e hkk).id]
        rcases h.sep k n b1 b h1 h2 ha hb hkn ho1 with h5 | h5 | h5
        · exact .inl h5
        · exact .inr (.inl (by omega))
        · exact .inr (.inr h5)
      · rw [if_neg hk'] at h4
        obtain ⟨h3, hkn'⟩ := hlv k' (fun e => hk' e.symm) h3
        rw [(Env.set_ne e (fun e => hk e.symm)).rm, (Env.set_ne e (fun e => hk e.symm)).id, (Env.set_ne e (fun e => hk' e.symm)).rm, (Env.set_ne e (fun e => hk' e.symm)).id]
        exact h.sep k k' b1 b2 h1 h2 h3 h4 hkk ho1
  · intro k b2 h1 h2 ho2
    rw [hbk] at h2
    by_cases hk : m = k
    · subst hk
      rw [Env.set_rm, Env.set_id]
      rcases hown with h3 | h3 | h3
      · exact .inl (by omega)
      · exact .inr (.inl h3)
      · exact .inr (.inr h3)
    · rw [if_neg hk] at h2
      rw [(Env.set_ne e (fun e => hk e.symm)).rm, (Env.set_ne e (fun e => hk e.symm)).id]
      exact h.own k b2 (hlv k (fun e => hk e.symm) h1).1 h2 ho2
  · intro q x hx k hj
    unfold wsSteal at hx
    rw [upd_cons] at hx
    split at hx
    · cases hx; cases hj
    · unfold wsNew at hx
      rw [upd_cons] at hx
      split at hx
      · cases hx; cases hj
      · rw [upd_cons] at hx
        split at hx
        · cases hx; exact hal k (hns k hj)
        · rw [upd_nil] at hx; exact hal k (h.cl.1 q x hx k hj)
  · intro k hk
    rw [hbk] at hk
    split at hk
    · rename_i e; subst e; rw [hl, if_neg hne, if_pos rfl]; simp
    · exact hal k (h.cl.2 k hk)
  · intro k hk
    exact (Env.set_ne e (fun he => hm (by rw [← he]; exact hk))).trans (h.given k hk)
  · intro k hk ht
    by_cases hr : e.rm n = 0
    · rw [h0 hr]; exact h.old k hk ht
    · rw [hw k (fun e => by
        rcases hown with h1 | h1 | h1
        · exact hr h1
        · omega
        · exact ht (e ▸ h1))]
      exact h.old k hk ht
theorem Real.steal (h : Real c s e a w) {n m o : Nat} {b b' : B} (hm : ¬ c.gv m) (hnm : s (.l m) = none) (ha : s (.l n) = some (.l true)) (hb : s (.b n) = some (.b b)) (hdf : b ≠ .df) (ho : b.own = true) (hw : ∀ k, k ≠ e.id n → w'.heap[k]? = w.heap[k]?) (h0 : e.rm n = 0 → w' = w) (hsz : w.heap.size ≤ w'.heap.size)
    (hos : w'.os = w.os) (htape : w'.tape = w.tape) (hout : w'.output = w.output) (hb' : BOk (upd s (wsSteal n m b')) (e.set m (e.id n) (e.bs n + o) (e.rm n - o)) w' m b') (hns : ∀ k ∈ b'.names, s (.l k) ≠ none) :
    Real c (upd s (wsSteal n m b')) (e.set m (e.id n) (e.bs n + o) (e.rm n - o)) a w' :=
  h.withW (h.W.steal hm hnm ha hb ho hw h0 hsz hos htape hout hb' hns) (fun i => by unfold wsSteal; rw [upd_cons_ne _ _ _ (by simp), wsNew_t])
    (fun k hk => ⟨fun hv => by
      unfold live wsSteal at *
      rw [upd_cons, wsNew_l] at hv
      split at hv
      · cases hv
      · rw [if_neg (fun e => not_live hnm hk e.symm)] at hv; exact hv, (Env.set_ne e (not_live hnm hk)).symm⟩)
    (fun k hk => by
      have hne : n ≠ k := fun e => by subst e; have := (h.fml n hk).2; rw [hb] at this; cases this; exact hdf rfl
      have hkm : m ≠ k := fun e => not_live hnm (show s (.l k) ≠ none by rw [(h.fml k hk).1]; simp) e.symm
      unfold wsSteal
      rw [upd_cons_ne _ _ _ (by simpa using hne), wsNew_l, upd_cons_ne _ _ _ (by simp), wsNew_b, if_neg hkm, if_neg hkm]; exact ⟨rfl, rfl⟩)
end
end Go.Proofs.Ytnmkpekfkfckoaa.EV
namespace Go.Proofs.Ytnmkpekfkfckoaa.EV
open Go.RowKit
/-- A fence that lets every call by. -/
class WideLike (F : Fence) : Prop where
  fn : ∀ f, F.fn f
  depth : F.depth = none
  calls : ∀ {n : Nat} {P : Program} {f : FuncId} {args : Array Value} {w : World} {R : Ending → World → Prop}, Calls P f args w R → CallsIn F n P f args w R
instance wide_like : WideLike Fence.wide := ⟨fun _ => trivial, rfl, fun h => callsIn_wide.2 h⟩
instance round_like (l : Nat) : WideLike (Fence.wide.inRound l) := ⟨fun _ => trivial, rfl, fun h => (callsIn_wide.2 h).inRound l⟩
/-- A constant, as it is told. -/
def canon : Value → Option V
  | .agg a => if a.toList.all (·.oneCell') = true then some (.a (a.toList.map C.v)) else none
  | x => some (.c (.v x))
def opv (s : Sf) : Operand → Option V
  | .tmp t => match s (.t t) with
    | some (.v v) => some v
    | _ => none
  | .const x => canon x
  | .global g => some (.c (.v (.pointer (some ⟨g, 0, none⟩))))
  | .func f => some (.c (.f f []))
def opk : Operand → List Key
  | .tmp t => [.t t]
  | _ => []
section
variable {c : Ctx} {F : Fence} {nn : Nat} {σ s : Sf} {e : Env} {a : Act} {w : World}
theorem canon_ok {x : Value} {v : V} (h : canon x = some v) : OkV s e v x := by
  cases x with
  | agg a =>
    simp only [canon] at h
    split at h
    · rename_i h1; cases h; exact ⟨a.toList, by simp, OkL.plain _ h1⟩
    · cases h
  | _ => cases h; exact Ok.of
theorem canon_names {x : Value} {v : V} (h : canon x = some v) : v.names = [] := by
  cases x with
  | agg a =>
    simp only [canon] at h
    split at h
    · cases h; exact plain_names _
    · cases h
  | _ => cases h; rfl
theorem opv_agree {x : Operand} (h : ∀ q ∈ opk x, s q = σ q) : opv s x = opv σ x := by
  cases x with
  | tmp t => simp only [opv]; rw [h (.t t) (by simp [opk])]
  | _ => rfl
theorem eval_opv {x : Operand} {v : V} (hx : opv s x = some v) (hR : Real c s e a w) : OkV s e v (a.eval x) := by
  cases x with
  | tmp t =>
    simp only [opv] at hx
    split at hx
    · rename_i u hu
      cases hx
      obtain ⟨u, h1, h2⟩ := hR.tmp t v hu
      simpa [Act.eval, Array.getD_eq_getD_getElem?, h1] using h2
    · cases hx
  | const x => exact canon_ok hx
  | global g => cases hx; exact Ok.of
  | func f => cases hx; exact fun _ => rfl
theorem opv_names {x : Operand} {v : V} (hx : opv s x = some v) (hc : Cl s) : ∀ n ∈ v.names, s (.l n) ≠ none := by
  intro n hn
  cases x with
  | tmp t =>
    simp only [opv] at hx
    split at hx
    · rename_i u hu
      cases hx
      exact hc.1 _ _ hu n hn
    · cases hx
  | const x => rw [canon_names hx] at hn; cases hn
  | global g => cases hx; cases hn
  | func f => cases hx; cases hn
/-- One operation, in every state that holds what it reads. -/
def LocalO (c : Ctx) (F : Fence) (nn : Nat) (o : Oper) (σ : Sf) (t : Tr) : Prop :=
  Cl σ → ∀ (Q : Exit → Act → World → Prop) (s : Sf) (e : Env) (a : Act) (w : World) (K : Act → World → Prop), (∀ q, t.rd q = true → s q = σ q) → Real c s e a w →
    (∀ e' a' w', Real c (upd s t.ws) e' a' w' → K a' w') → o.wpIn F nn c.P a w K Q
def orR (ks : List Key) (rd : Key → Bool) : Key → Bool := fun q => (ks.any fun k => Key.beq k q) || rd q
theorem orR_l {ks : List Key} {rd : Key → Bool} {q : Key} (h : q ∈ ks) : orR ks rd q = true := by
  simp only [orR, Bool.or_eq_true, List.any_eq_true]; exact .inl ⟨q, h, Key.beq_refl q⟩
theorem orR_r {ks : List Key} {rd : Key → Bool} {q : Key} (h : rd q = true) : orR ks rd q = true := by simp [orR, h]
theorem LocalO.plain {o : Oper} {t : Tr} {ops : Array Oper} {i : Nat} (h : LocalO c F nn o σ t) (hg : o.guard = none) (ho : ops[i]? = some o) : LocalI c F nn ops i σ t := by
  intro hcl Q s e a w K hag hR hK
  unfold wpOpIn
  simp only [ho, Region.wanted, hg, if_true]
  exact h hcl Q s e a w K hag hR hK
theorem yielded_of {ops : Array Oper} {j d : Nat} {b : Bool} (hd : (ops[j]?).bind (·.dst) = some d) (hv : s (.t d) = some (.v (.c (.v (.bool b))))) (hR : Real c s e a w) : yielded ops a.tmps j = some b := by
  obtain ⟨u, h1, h2⟩ := hR.tmp d _ hv
  have := Ok.plain h2; subst this
  unfold yielded
  simp only [hd, Option.bind_some, h1]
  try rfl
theorem LocalO.guarded {o : Oper} {t : Tr} {ops : Array Oper} {i j d : Nat} {want : Bool} (h : LocalO c F nn o σ t) (hg : o.guard = some (j, want)) (hd : (ops[j]?).bind (·.dst) = some d) {b : Bool} (hv : σ (.t d) = some (.v (.c (.v (.bool b))))) (hb : b = want) (ho : ops[i]? = some o) :
    LocalI c F nn ops i σ ⟨orR [.t d] t.rd, t.ws⟩ := by
  intro hcl Q s e a w K hag hR hK
  unfold wpOpIn
  have hy := yielded_of hd (b := want) (by rw [hag (.t d) (orR_l (by simp)), hv, hb]) hR
  simp only [ho, Region.wanted, hg, hy]
  rw [if_pos (by simp)]
  exact h hcl Q s e a w K (fun q hq => hag q (orR_r hq)) hR hK
/-- The guard of an operation that is carried out. -/
inductive GOk (ops : Array Oper) (s : Sf) : Option (Nat × Bool) → List Key → Prop
  | none : GOk ops s none []
  | some {j d : Nat} {want b : Bool} : (ops[j]?).bind (·.dst) = some d → s (.t d) = some (.v (.c (.v (.bool b)))) → b = want → GOk ops s (some (j, want)) [.t d]
theorem LocalI.rd {ops : Array Oper} {i : Nat} {ws : Ws} {r1 r2 : Key → Bool} (h : LocalI c F nn ops i σ ⟨r1, ws⟩) (hr : ∀ q, r1 q = true → r2 q = true) : LocalI c F nn ops i σ ⟨r2, ws⟩ :=
  fun hcl Q s e a w K hag hR hK => h hcl Q s e a w K (fun q hq => hag q (hr q hq)) hR hK
theorem LocalO.under {o : Oper} {t : Tr} {ops : Array Oper} {i : Nat} {g : Option (Nat × Bool)} {ks : List Key} (h : LocalO c F nn o σ t) (hg : GOk ops σ g ks) (ho' : o.guard = g) (ho : ops[i]? = some o) : LocalI c F nn ops i σ ⟨orR ks t.rd, t.ws⟩ := by
  cases hg with
  | none => exact LocalI.rd (r1 := t.rd) (h.plain ho' ho) (fun q hq => orR_r hq)
  | some hd hv hb => exact h.guarded ho' hd hv hb ho
/-- What is laid into the slot of an operation, if it has one. -/
def putW : Option Tmp → V → Ws
  | some d, v => [(.t d, .v v)]
  | none, _ => []
def dOk (N : Nat) : Option Tmp → Bool
  | some d => Nat.blt d N
  | none => true
theorem Real.putW (h : Real c s e a w) {dst : Option Tmp} {v : V} {u : Value} (hd : dOk c.N dst = true) (hk : OkV s e v u) (hn : ∀ n ∈ v.names, s (.l n) ≠ none) : Real c (upd s (putW dst v)) e (a.put dst u) w := by
  cases dst with
  | none => exact h.same
  | some d => exact h.put (by simpa [dOk, Nat.blt_eq] using hd) hk hn
theorem LocalO.skipped (hF : WideLike F) {o : Oper} {ops : Array Oper} {i j d : Nat} {want b : Bool} (hg : o.guard = some (j, want)) (hd : (ops[j]?).bind (·.dst) = some d) (hv : σ (.t d) = some (.v (.c (.v (.bool b))))) (hb : b = !want) (hN : dOk c.N o.dst = true) (ho : ops[i]? = some o) :
    LocalI c F nn ops i σ ⟨kr [.t d], putW o.dst (.c (.v undef))⟩ := by
  intro hcl Q s e a w K hag hR hK
  unfold wpOpIn
  have hy := yielded_of hd (b := b) (by rw [hag (.t d) (kr_iff.2 (by simp))]; exact hv) hR
  simp only [ho, Region.wanted, hg, hy]
  rw [if_neg (by rw [hb]; simp)]
  exact ⟨fun f _ => hF.fn f, hK e _ _ (hR.putW hN Ok.of (fun n hn => by cases hn))⟩
theorem wpIn_value (hF : WideLike F) {o : Oper} {Q : Exit → Act → World → Prop} {K : Act → World → Prop} {v : Value} {w' : World} (hdef : ∀ q, o.op ≠ .defer q) (h : (execOp a.eval o).run c.P w = .ok (.value v) w') (hK : K (a.put o.dst v) w') : o.wpIn F nn c.P a w K Q := by
  refine ⟨fun f _ => hF.fn f, ?_⟩
  rw [Oper.semAt_eq _ _ _ hdef, h]
  exact hK
theorem wpIn_skip' (hF : WideLike F) {o : Oper} {Q : Exit → Act → World → Prop} {K : Act → World → Prop} {w' : World} (hdef : ∀ q, o.op ≠ .defer q) (h : (execOp a.eval o).run c.P w = .ok .skip w') (hK : K (a.put o.dst undef) w') : o.wpIn F nn c.P a w K Q := by
  refine ⟨fun f _ => hF.fn f, ?_⟩
  rw [Oper.semAt_eq _ _ _ hdef, h]
  exact hK
theorem noDefer {o : Op} (h : (match o with | .defer _ => true | _ => false) = false) : ∀ q, o ≠ .defer q := by
  rintro q rfl; cases h
/-- An operation that yields a value, and lays (or changes) blocks. -/
theorem LocalO.act (hF : WideLike F) {o : Oper} {v : V} {rd : Key → Bool} {ws : Ws} (hN : dOk c.N o.dst = true) (hdef : ∀ q, o.op ≠ .defer q)
    (h : ∀ s e a w, (∀ q, rd q = true → s q = σ q) → Real c s e a w → ∃ u w' e', (execOp a.eval o).run c.P w = .ok (.value u) w' ∧ Real c (upd s ws) e' a w' ∧ OkV (upd s ws) e' v u ∧ ∀ n ∈ v.names, upd s ws (.l n) ≠ none) : LocalO c F nn o σ ⟨rd, putW o.dst v ++ ws⟩ := by
  intro hcl Q s e a w K hag hR hK
  obtain ⟨u, w', e', h1, h2, h3, h4⟩ := h s e a w hag hR
  refine wpIn_value hF hdef h1 ?_
  refine hK e' _ _ ?_
  rw [upd_append]
  exact h2.putW hN h3 h4
/-- An operation that yields a value alone. -/
theorem LocalO.val (hF : WideLike F) {o : Oper} {v : V} {rd : Key → Bool} (hN : dOk c.N o.dst = true) (hdef : ∀ q, o.op ≠ .defer q)
    (h : ∀ s e a w, (∀ q, rd q = true → s q = σ q) → Real c s e a w → ∃ u, (execOp a.eval o).run c.P w = .ok (.value u) w ∧ OkV s e v u ∧ ∀ n ∈ v.names, s (.l n) ≠ none) : LocalO c F nn o σ ⟨rd, putW o.dst v⟩ := by
  intro hcl Q s e a w K hag hR hK
  obtain ⟨u, h1, h3, h4⟩ := h s e a w hag hR
  refine wpIn_value hF hdef h1 ?_
  exact hK e _ _ (hR.putW hN h3 h4)
/-- An operation that changes blocks, and yields nothing. -/
theorem LocalO.deed (hF : WideLike F) {o : Oper} {rd : Key → Bool} {ws : Ws} (hd : o.dst = none) (hdef : ∀ q, o.op ≠ .defer q)
    (h : ∀ s e a w, (∀ q, rd q = true → s q = σ q) → Real c s e a w → ∃ w' e', (execOp a.eval o).run c.P w = .ok .skip w' ∧ Real c (upd s ws) e' a w') : LocalO c F nn o σ ⟨rd, ws⟩ := by
  intro hcl Q s e a w K hag hR hK
  obtain ⟨w', e', h1, h2⟩ := h s e a w hag hR
  refine wpIn_skip' hF hdef h1 ?_
  rw [hd]
  exact hK e' _ _ h2
end
end Go.Proofs.Ytnmkpekfkfckoaa.EV
namespace Go.Proofs.Ytnmkpekfkfckoaa.EV
open Go.RowKit
open SX (flatK plainT fitB eqs conjP aggT run_eql_flat run_neq_flat)
def tS (P : Program) (t : TypeId) : Option Nat := (P.info? t).map (·.size)
/-- A struct or an array? -/
def tRow (P : Program) (t : TypeId) : Option Bool := match P.underlying t with
  | some (.struct _) | some (.array _ _) => some true
  | some _ => some false
  | none => none
def partC (P : Program) (t : TypeId) (l : List C) (off : Nat) : Option V := match tRow P t with
  | some true => match tS P t with
    | some k => if off + k ≤ l.length then some (.a ((l.drop off).take k)) else none
    | none => none
  | some false => match l[off]? with
    | some x => some (.c x)
    | none => none
  | none => none
section
variable {P : Program} {s : Sf} {e : Env} {w : World}
theorem run_sz {t : TypeId} {k : Nat} (h : tS P t = some k) : (sizeOf t).run P w = .ok k w := by
  unfold tS at h
  cases hq : P.info? t with
  | none => rw [hq] at h; cases h
  | some inf =>
    rw [hq] at h
    simp only [Option.map_some, Option.some.injEq] at h
    simp [sizeOf, typeInfo, hq, h]
theorem run_row {t : TypeId} {b : Bool} (h : tRow P t = some b) : (isAgg t).run P w = .ok b w := by
  unfold tRow at h
  cases hu : P.underlying t with
  | none => rw [hu] at h; cases h
  | some d =>
    rw [hu] at h
    unfold isAgg
    rw [Sem.run_bind, run_underlying hu w]
    cases d <;> simp_all
theorem OkL.take_drop {l : List C} {us : List Value} (h : OkL s e l us) (o k : Nat) : OkL s e ((l.drop o).take k) ((us.drop o).take k) := by
  refine OkL.mk (by simp [h.length]) fun i x hx => ?_
  rw [List.getElem?_take] at hx ⊢
  split at hx
  · rename_i hi
    rw [if_pos hi]
    rw [List.getElem?_drop] at hx ⊢
    exact h.get hx
  · cases hx
theorem part_ok {t : TypeId} {l : List C} {off : Nat} {v : V} {us : List Value} (h : partC P t l off = some v) (hl : OkL s e l us) : ∃ u, (part t us.toArray off).run P w = .ok u w ∧ OkV s e v u ∧ ∀ n ∈ v.names, n ∈ l.flatMap C.names := by
  unfold partC at h
  cases hr : tRow P t with
  | none => rw [hr] at h; cases h
  | some b =>
    rw [hr] at h
    have e1 := run_row (w := w) hr
    cases b with
    | true =>
      simp only at h
      cases hs : tS P t with
      | none => rw [hs] at h; cases h
      | some k =>
        rw [hs] at h
        simp only at h
        split at h
        · rename_i hk
          cases h
          refine ⟨.agg ((us.drop off).take k).toArray, ?_, ⟨_, rfl, hl.take_drop off k⟩, fun n hn => ?_⟩
          · have e2 := run_sz (w := w) hs
            simp only [part, Sem.run_bind, e1, Result.andThen_ok, if_true, e2, Sem.run_pure]
            simp [List.extract_toArray, List.extract_eq_take_drop]
          · simp only [V.names, List.mem_flatMap] at hn ⊢
            obtain ⟨x, hx, hn⟩ := hn
            exact ⟨x, List.mem_of_mem_drop (List.mem_of_mem_take hx), hn⟩
        · cases h
    | false =>
      simp only at h
      cases hx : l[off]? with
      | none => rw [hx] at h; cases h
      | some x =>
        rw [hx] at h; cases h
        obtain ⟨u, h1, h2⟩ := hl.get hx
        refine ⟨u, ?_, h2.ok, fun n hn => List.mem_flatMap.2 ⟨x, List.mem_of_getElem? hx, hn⟩⟩
        simp only [part, Sem.run_bind, e1, Result.andThen_ok]
        simp [h1]
end
def unC : UnOp → Value → Option Value
  | .neg, .int k n => some (.int k (k.wrap (0 - n)))
  | .xor, .int k n => some (.int k (k.wrap ((BitVec.ofInt k.bits (if k.signed then -1 else k.max)) ^^^ BitVec.ofInt k.bits n).toNat))
  | .not, .bool b => some (.bool !b)
  | _, _ => none
theorem unC_ok {P : Program} {w : World} {op : UnOp} {X Z : Value} (h : unC op X = some Z) : (Op.unary op X).run P w = .ok Z w := by
  unfold unC at h
  split at h <;> first | (cases h; done) | (cases h; simp [Op.unary, Op.intArith, Op.intBits])
/-- Two numbers of one kind. -/
def intC : BinOp → IntKind → Int → Int → Option Value
  | .add, k, a, b => some (.int k (k.wrap (a + b)))
  | .sub, k, a, b => some (.int k (k.wrap (a - b)))
  | .mul, k, a, b => some (.int k (k.wrap (a * b)))
  | .quo, k, a, b => if b = 0 then none else some (.int k (k.wrap (a.tdiv b)))
  | .rem, k, a, b => if b = 0 then none else some (.int k (a.tmod b))
  | .and, k, a, b => some (.int k (k.wrap (BitVec.ofInt k.bits a &&& BitVec.ofInt k.bits b).toNat))
  | .or, k, a, b => some (.int k (k.wrap (BitVec.ofInt k.bits a ||| BitVec.ofInt k.bits b).toNat))
  | .xor, k, a, b => some (.int k (k.wrap (BitVec.ofInt k.bits a ^^^ BitVec.ofInt k.bits b).toNat))
  | .eql, _, a, b => some (.bool (a == b))
  | .neq, _, a, b => some (.bool (a != b))
  | .lss, _, a, b => some (.bool (decide (a < b)))
  | .leq, _, a, b => some (.bool (decide (a ≤ b)))
  | .gtr, _, a, b => some (.bool (decide (b < a)))
  | .geq, _, a, b => some (.bool (decide (b ≤ a)))
  | _, _, _, _ => none
def shC : BinOp → IntKind → Int → Int → Option Value
  | .shl, k, a, b => if b < 0 then none else some (.int k (k.wrap (a * 2 ^ (min b.toNat k.bits))))
  | .shr, k, a, b => if b < 0 then none else some (.int k (a.fdiv (2 ^ (min b.toNat k.bits))))
  | _, _, _, _ => none
def bytesEq : List UInt8 → List UInt8 → Bool
  | [], [] => true
  | x :: a, y :: b => Nat.beq x.toNat y.toNat && bytesEq a b
  | _, _ => false
theorem bytesEq_eq : ∀ (a b : List UInt8), bytesEq a b = (a == b)
  | [], [] => rfl
  | [], _ :: _ => rfl
  | _ :: _, [] => rfl
  | x :: a, y :: b => by
    have e : Nat.beq x.toNat y.toNat = (x == y) := by
      rw [Bool.eq_iff_iff, Nat.beq_eq, beq_iff_eq, UInt8.toNat_inj]
    rw [bytesEq, bytesEq_eq a b, e]; rfl
/-- Two strings. -/
def strC : BinOp → ByteArray → ByteArray → Option Value
  | .add, a, b => if a.data.size + b.data.size ≤ 1000000000 then some (.string ⟨(a.data.toList ++ b.data.toList).toArray⟩) else none
  | .eql, a, b => some (.bool (bytesEq a.data.toList b.data.toList))
  | .neq, a, b => some (.bool (!bytesEq a.data.toList b.data.toList))
  | _, _, _ => none
def binC (P : Program) (t : TypeId) (op : BinOp) : Value → Value → Option Value
  | .int k a, .int k' b => match op with
    | .shl | .shr => shC op k a b
    | _ => if k = k' then intC op k a b else none
  | .string a, .string b => strC op a b
  | .bool a, .bool b => match op, P.underlying t with
    | .eql, some .bool => some (.bool (a == b))
    | .neq, some .bool => some (.bool (a != b))
    | _, _ => none
  | .pointer none, .pointer none => match op, P.underlying t with
    | .eql, some (.pointer _) => some (.bool true)
    | .neq, some (.pointer _) => some (.bool false)
    | _, _ => none
  | _, _ => none
theorem byteArray_toList (a : ByteArray) : a.toList = a.data.toList := by
  have key : ∀ (n i : Nat) (r : List UInt8), a.size - i = n → ByteArray.toList.loop a i r = r.reverse ++ a.data.toList.drop i := by
    intro n
    induction n with
    | zero =>
      intro i r h
      rw [ByteArray.toList.loop, if_neg (by omega), List.drop_of_length_le (by simpa using (show a.data.size ≤ i by have : a.size = a.data.size := rfl; omega))]
      simp
    | succ n ih =>
      intro i r h
      have hi : i < a.data.size := by have : a.size = a.data.size := rfl; omega
      have e : a.get! i = a.data[i] := by
        show a.data[i]! = _
        rw [getElem!_pos a.data i hi]
      have hd : a.data.toList.drop i = a.data[i] :: a.data.toList.drop (i + 1) := by
        rw [List.drop_eq_getElem_cons (by simpa using hi)]; simp
      rw [ByteArray.toList.loop, if_pos (by have : a.size = a.data.size := rfl; omega), ih (i + 1) _ (by omega), hd, e]
      simp
  have := key (a.size - 0) 0 [] rfl
  simpa [ByteArray.toList] using this
theorem strC_ok {P : Program} {w : World} {op : BinOp} {a b : ByteArray} {Z : Value} (h : strC op a b = some Z) : (Op.stringOp op a b).run P w = .ok Z w := by
  unfold strC at h
  split at h
  · split at h
    · rename_i hle
      cases h
      have e1 : a.size = a.data.size := rfl
      have e2 : b.size = b.data.size := rfl
      have hs : ¬ (((a.size + b.size : Nat) : Int) > IntKind.i64.max) := by
        have : IntKind.i64.max = 9223372036854775807 := by decide
        rw [this]; omega
      have e3 : a ++ b = ⟨(a.data.toList ++ b.data.toList).toArray⟩ := by
        apply ByteArray.ext
        simp
      simp only [Op.stringOp, if_neg hs, Sem.run_pure, e3]
    · cases h
  · cases h; simp [Op.stringOp, byteArray_toList, bytesEq_eq]
  · cases h; simp [Op.stringOp, byteArray_toList, bytesEq_eq]
  · cases h
theorem binC_ok {P : Program} {w : World} {op : BinOp} {t : TypeId} {x y : Operand} {X Y Z : Value} (h : binC P t op X Y = some Z) : (do eqGuard op t x y X Y; binOp op t X Y : Sem Value).run P w = .ok Z w := by
  unfold binC at h
  split at h
  · rename_i k a k' b
    have eg : eqGuard op t x y (.int k a) (.int k' b) = pure () := by cases op <;> rfl
    rw [eg]
    have sh : ∀ {Z}, shC op k a b = some Z → (Op.shift op k a k' b).run P w = .ok Z w := fun hi => by
      clear h
      unfold shC at hi
      split at hi
      · split at hi
        · cases hi
        · rename_i hb; cases hi; simp [Op.shift, hb]
      · split at hi
        · cases hi
        · rename_i hb; cases hi; simp [Op.shift, hb]
      · cases hi
    have ii : ∀ {Z}, (if k = k' then intC op k a b else none) = some Z → op ≠ .shl → op ≠ .shr → (binOp op t (.int k a) (.int k' b)).run P w = .ok Z w := fun hi h1 h2 => by
      clear h
      by_cases hk : k = k'
      · subst hk
        rw [if_pos rfl] at hi
        cases op <;> simp only [intC] at hi <;> first
          | (cases hi; done)
          | (cases hi; simp [binOp, Op.intArith]; done)
          | (cases hi; simp [binOp, Op.intBits]; done)
          | (cases hi; simp [binOp, Op.intCmp]; done)
          | (by_cases hb : b = 0
             · rw [if_pos hb] at hi; cases hi
             · rw [if_neg hb] at hi; cases hi; simp [binOp, Op.intDiv, hb])
          | exact absurd rfl h1
          | exact absurd rfl h2
      · rw [if_neg hk] at hi; cases hi
    simp only [Sem.run_bind, Sem.run_pure, Result.andThen_ok]
    cases op <;> simp only at h <;> first
      | exact sh h
      | exact ii h (by simp) (by simp)
  · rename_i a b
    have eg : eqGuard op t x y (.string a) (.string b) = pure () := by cases op <;> rfl
    rw [eg]
    simp only [Sem.run_bind, Sem.run_pure, Result.andThen_ok]
    have e : binOp op t (.string a) (.string b) = Op.stringOp op a b := by cases op <;> rfl
    rw [e]; exact strC_ok h
  · rename_i a b
    have eg : eqGuard op t x y (.bool a) (.bool b) = pure () := by cases op <;> rfl
    rw [eg]
    simp only [Sem.run_bind, Sem.run_pure, Result.andThen_ok]
    split at h
    · rename_i hu; cases h; exact run_eql_bool (P := P) w t a b hu
    · rename_i hu; cases h; simpa [bne] using run_neq_bool (P := P) w t a b hu
    · cases h
  · have eg : eqGuard op t x y (.pointer none) (.pointer none) = pure () := by cases op <;> rfl
    rw [eg]
    simp only [Sem.run_bind, Sem.run_pure, Result.andThen_ok]
    have key : ∀ {el}, P.underlying t = some (.pointer el) → (Op.equal t (.pointer none) (.pointer none)).run P w = .ok true w := fun hu => by
      have : Op.equal t (.pointer none) (.pointer none) = Op.equalIn (9999 + 1) t (.pointer none) (.pointer none) := rfl
      rw [this, Op.equalIn]; simp only [Sem.run_bind, run_underlying hu w, Result.andThen_ok]; rfl
    have eq_nil : ∀ {el}, P.underlying t = some (.pointer el) → (binOp .eql t (.pointer none) (.pointer none)).run P w = .ok (.bool true) w := fun hu => by
      simp only [binOp, Sem.run_bind, key hu, Result.andThen_ok, Sem.run_pure]
    have ne_nil : ∀ {el}, P.underlying t = some (.pointer el) → (binOp .neq t (.pointer none) (.pointer none)).run P w = .ok (.bool false) w := fun hu => by
      simp only [binOp, Sem.run_bind, key hu, Result.andThen_ok, Sem.run_pure]; rfl
    split at h
    · rename_i el hu
      cases h
      exact eq_nil hu
    · rename_i el hu
      cases h
      exact ne_nil hu
    · cases h
  · cases h
end Go.Proofs.Ytnmkpekfkfckoaa.EV
namespace Go.Proofs.Ytnmkpekfkfckoaa.EV
open Go.RowKit
open SX (flatK plainT fitB eqs conjP aggT run_eql_flat run_neq_flat)
def eqOkB (P : Program) (t : TypeId) (L M : List Value) : Bool := match flatK P 9 t with
  | some ks => plainT P 9 t && aggT P t && fitB ks L && fitB ks M && !P.eqGuardType P.depth t
  | none => false
theorem eqOk_eql {P : Program} {t : TypeId} {L M : List Value} (h : eqOkB P t L M = true) (w : World) : (binOp .eql t (.agg L.toArray) (.agg M.toArray)).run P w = .ok (.bool (eqs L M)) w ∧ (binOp .neq t (.agg L.toArray) (.agg M.toArray)).run P w = .ok (.bool (!eqs L M)) w ∧ P.eqGuardType P.depth t = false := by
  unfold eqOkB at h
  cases hk : flatK P 9 t with
  | none => rw [hk] at h; cases h
  | some ks =>
    rw [hk] at h
    simp only [Bool.and_eq_true, Bool.not_eq_true'] at h
    obtain ⟨⟨⟨⟨h1, h2⟩, h3⟩, h4⟩, h5⟩ := h
    exact ⟨run_eql_flat hk h1 h2 h3 h4 w, run_neq_flat hk h1 h2 h3 h4 w, h5⟩
/-- The cells of a list, if they are plain. -/
def plainL : List C → Option (List Value)
  | [] => some []
  | .v x :: l => match plainL l with
    | some r => some (x :: r)
    | none => none
  | _ :: _ => none
theorem plainL_eq : ∀ {l : List C} {r : List Value}, plainL l = some r → l = r.map C.v
  | [], _, h => by cases h; rfl
  | .v x :: l, r, h => by
    simp only [plainL] at h
    split at h
    · rename_i r' hr; cases h; rw [plainL_eq hr]; rfl
    · cases h
  | .p _ _ :: _, _, h => by cases h
  | .s _ _ _ _ :: _, _, h => by cases h
  | .g _ _ _ _ _ :: _, _, h => by cases h
  | .f _ _ :: _, _, h => by cases h
  | .y _ :: _, _, h => by cases h
/-- What a function keeps of what is around it. -/
inductive Caps (s : Sf) : List Operand → List (Nat × Nat) → List Key → Prop
  | nil : Caps s [] [] []
  | cons {x : Operand} {n o : Nat} {xs : List Operand} {l : List (Nat × Nat)} {ks : List Key} : opv s x = some (.c (.p n o)) → s (.l n) = some (.l true) → Caps s xs l ks → Caps s (x :: xs) ((n, o) :: l) (.l n :: (opk x ++ ks))
/-- Values of operands. -/
inductive Vals (s : Sf) : List Operand → List V → List Key → Prop
  | nil : Vals s [] [] []
  | cons {x : Operand} {v : V} {xs : List Operand} {l : List V} {ks : List Key} : opv s x = some v → Vals s xs l ks → Vals s (x :: xs) (v :: l) (opk x ++ ks)
/-- Values that are numbers of 64 bits, or none. -/
inductive OptI (s : Sf) : Option Operand → Option Int → List Key → Prop
  | no : OptI s none none []
  | yes {x : Operand} {k : IntKind} {i : Int} : opv s x = some (.c (.v (.int k i))) → OptI s (some x) (some i) (opk x)
/-- The bounds of a slicing: low, high, most; of n places, of which all may be used up to cap. -/
def bnd (n cap : Nat) (lo hi mx : Option Int) (l h m : Nat) : Prop :=
  (match mx with | some i => 0 ≤ i ∧ i ≤ cap ∧ i.toNat = m | none => m = cap) ∧
  (match hi, mx with | some i, _ => 0 ≤ i ∧ i ≤ m ∧ i.toNat = h | none, none => h = n | none, some _ => False) ∧
  (match lo with | some i => 0 ≤ i ∧ i ≤ h ∧ i.toNat = l | none => l = 0)
section
variable {c : Ctx} {F : Fence} {nn : Nat} {σ s : Sf} {e : Env} {a : Act} {w : World}
theorem ev1 {x : Operand} {v : V} (hx : opv σ x = some v) {ks : List Key} (hag : ∀ q ∈ ks, s q = σ q) (hsub : ∀ q ∈ opk x, q ∈ ks) (hR : Real c s e a w) : OkV s e v (a.eval x) ∧ ∀ n ∈ v.names, s (.l n) ≠ none :=
  have h : opv s x = some v := by rw [opv_agree fun q hq => hag q (hsub q hq)]; exact hx
  ⟨eval_opv h hR, opv_names h hR.W.cl⟩
theorem ev1v {x : Operand} {X : Value} (hx : opv σ x = some (.c (.v X))) {ks : List Key} (hag : ∀ q ∈ ks, s q = σ q) (hsub : ∀ q ∈ opk x, q ∈ ks) (hR : Real c s e a w) : a.eval x = X :=
  Ok.plain (ev1 hx hag hsub hR).1
theorem ev1r {x : Operand} {y : C} {n : Nat} (hx : opv σ x = some (.c y)) {ks : List Key} (hag : ∀ q ∈ ks, s q = σ q) (hsub : ∀ q ∈ opk x, q ∈ ks) (hR : Real c s e a w) (hn : y.names = [n]) (hl : σ (.l n) = some (.l true)) (hk : Key.l n ∈ ks) : Rep e y (a.eval x) :=
  (ev1 hx hag hsub hR).1 fun m hm => by
    rw [hn] at hm; simp at hm; subst hm
    unfold live; rw [hag _ hk]; exact hl
theorem Caps.agree {xs : List Operand} {l : List (Nat × Nat)} {ks : List Key} (h : Caps σ xs l ks) (hag : ∀ q ∈ ks, s q = σ q) (hR : Real c s e a w) : xs.map a.eval = l.map (fun q => Value.pointer (some ⟨e.id q.1, e.bs q.1 + q.2, none⟩)) := by
  induction h with
  | nil => rfl
  | @cons x n o xs l ks hx hl h ih =>
    have := ev1r hx hag (fun q hq => by simp [hq]) hR rfl hl (by simp)
    simp only [Rep] at this
    rw [List.map_cons, List.map_cons, this, ih (fun q hq => hag q (by simp [hq]))]
theorem Caps.al {xs : List Operand} {l : List (Nat × Nat)} {ks : List Key} (h : Caps σ xs l ks) (hag : ∀ q ∈ ks, s q = σ q) : ∀ n ∈ l.map (·.1), s (.l n) ≠ none := by
  induction h with
  | nil => intro n hn; cases hn
  | @cons x n o xs l ks hx hl h ih =>
    intro m hm
    simp only [List.map_cons, List.mem_cons] at hm
    rcases hm with rfl | hm
    · rw [hag _ (by simp), hl]; simp
    · exact ih (fun q hq => hag q (by simp [hq])) m hm
theorem OptI.agree {x : Option Operand} {i : Option Int} {ks : List Key} (h : OptI σ x i ks) (hag : ∀ q ∈ ks, s q = σ q) (hR : Real c s e a w) : (x = none ∧ i = none) ∨ ∃ y k j, x = some y ∧ i = some j ∧ x.map a.eval = some (.int k j) := by
  cases h with
  | no => exact .inl ⟨rfl, rfl⟩
  | @yes x k i hx => exact .inr ⟨x, k, i, rfl, rfl, by simp [ev1v hx hag (fun q h => h) hR]⟩
theorem run_bound {P : Program} {k : IntKind} {i : Int} {y : Nat} {cd : BoundsCode} (h : 0 ≤ i ∧ i ≤ y) : (Instr.sliceBound (.int k i) y cd).run P w = .ok i.toNat w := by
  simp [Instr.sliceBound, asIntOf, h]
theorem run_bounds {P : Program} {isS : Bool} {n cap l h m : Nat} {lo hi mx : Option Int} (hb : bnd n cap lo hi mx l h m) {x y z : Option Value} (hx : (x = none ∧ lo = none) ∨ ∃ k j, x = some (.int k j) ∧ lo = some j) (hy : (y = none ∧ hi = none) ∨ ∃ k j, y = some (.int k j) ∧ hi = some j)
    (hz : (z = none ∧ mx = none) ∨ ∃ k j, z = some (.int k j) ∧ mx = some j) : (Instr.sliceBounds isS n cap x y z).run P w = .ok (l, h, m) w := by
  obtain ⟨h1, h2, h3⟩ := hb
  rcases hz with ⟨rfl, rfl⟩ | ⟨k, j, rfl, rfl⟩
  · simp only at h1; subst h1
    rcases hy with ⟨rfl, rfl⟩ | ⟨k', j', rfl, rfl⟩
    · simp only at h2; subst h2
      rcases hx with ⟨rfl, rfl⟩ | ⟨k2, j2, rfl, rfl⟩
      · simp only at h3; subst h3; simp [Instr.sliceBounds]
      · simp only at h3; obtain ⟨a1, a2, rfl⟩ := h3; simp [Instr.sliceBounds, run_bound ⟨a1, a2⟩]
    · simp only at h2; obtain ⟨b1, b2, rfl⟩ := h2
      rcases hx with ⟨rfl, rfl⟩ | ⟨k2, j2, rfl, rfl⟩
      · simp only at h3; subst h3; simp [Instr.sliceBounds, run_bound ⟨b1, b2⟩]
      · simp only at h3; obtain ⟨a1, a2, rfl⟩ := h3
        have b3 := run_bound (w := w) (P := P) (k := k') (cd := if isS = true then BoundsCode.sliceAcap else BoundsCode.sliceAlen) ⟨b1, b2⟩
        have a3 := run_bound (w := w) (P := P) (k := k2) (cd := BoundsCode.sliceB) (y := j'.toNat) ⟨a1, a2⟩
        simp [Instr.sliceBounds, b3, a3]
  · simp only at h1; obtain ⟨c1, c2, rfl⟩ := h1
    have c3 := run_bound (w := w) (P := P) (k := k) (cd := if isS = true then BoundsCode.slice3Acap else BoundsCode.slice3Alen) ⟨c1, c2⟩
    rcases hy with ⟨rfl, rfl⟩ | ⟨k', j', rfl, rfl⟩
    · exact h2.elim
    · simp only at h2; obtain ⟨b1, b2, rfl⟩ := h2
      have b3 := run_bound (w := w) (P := P) (k := k') (cd := BoundsCode.slice3B) (y := j.toNat) ⟨b1, b2⟩
      rcases hx with ⟨rfl, rfl⟩ | ⟨k2, j2, rfl, rfl⟩
      · simp only at h3; subst h3; simp [Instr.sliceBounds, b3, c3]
      · simp only at h3; obtain ⟨a1, a2, rfl⟩ := h3
        have a3 := run_bound (w := w) (P := P) (k := k2) (cd := BoundsCode.slice3C) (y := j'.toNat) ⟨a1, a2⟩
        simp [Instr.sliceBounds, b3, c3, a3]
theorem Vals.agree {xs : List Operand} {L : List Value} {ks : List Key} (h : Vals σ xs (L.map fun X => V.c (.v X)) ks) (hag : ∀ q ∈ ks, s q = σ q) (hR : Real c s e a w) : xs.map a.eval = L := by
  generalize hl : (L.map fun X => V.c (.v X)) = l at h
  induction h generalizing L with
  | nil => cases L with
    | nil => rfl
    | cons x r => cases hl
  | @cons x v xs l ks hx h ih =>
    cases L with
    | nil => cases hl
    | cons X r =>
      simp only [List.map_cons, List.cons.injEq] at hl
      obtain ⟨rfl, hl⟩ := hl
      rw [List.map_cons, ev1v hx hag (fun q hq => by simp [hq]) hR, ih (fun q hq => hag q (by simp [hq])) hl]
def minR (k : IntKind) : Int → List Value → Option Value
  | a, [] => some (.int k a)
  | a, .int _ b :: r => minR k (if b < a then b else a) r
  | _, _ :: _ => none
def maxR (k : IntKind) : Int → List Value → Option Value
  | a, [] => some (.int k a)
  | a, .int _ b :: r => maxR k (if b > a then b else a) r
  | _, _ :: _ => none
def minL : List Value → Option Value
  | .int k a :: r => minR k a r
  | _ => none
def maxL : List Value → Option Value
  | .int k a :: r => maxR k a r
  | _ => none
theorem minR_ok {P : Program} {k : IntKind} : ∀ {r : List Value} {a : Int} {Z : Value}, minR k a r = some Z → (r.foldlM Builtin.min2 (.int k a)).run P w = .ok Z w
  | [], a, Z, h => by simp only [minR] at h; cases h; rfl
  | x :: r, a, Z, h => by
    cases x with
    | int k' b => simp only [minR] at h; rw [List.foldlM_cons]; simpa [Builtin.min2] using minR_ok h
    | _ => simp [minR] at h
theorem maxR_ok {P : Program} {k : IntKind} : ∀ {r : List Value} {a : Int} {Z : Value}, maxR k a r = some Z → (r.foldlM Builtin.max2 (.int k a)).run P w = .ok Z w
  | [], a, Z, h => by simp only [maxR] at h; cases h; rfl
  | x :: r, a, Z, h => by
    cases x with
    | int k' b => simp only [maxR] at h; rw [List.foldlM_cons]; simpa [Builtin.max2] using maxR_ok h
    | _ => simp [maxR] at h
theorem minL_ok {P : Program} {L : List Value} {Z : Value} (h : minL L = some Z) : ∃ x r, L = x :: r ∧ (r.foldlM Builtin.min2 x).run P w = .ok Z w := by
  cases L with
  | nil => simp [minL] at h
  | cons x r => cases x with
    | int k a => exact ⟨_, _, rfl, minR_ok (by simpa [minL] using h)⟩
    | _ => simp [minL] at h
theorem maxL_ok {P : Program} {L : List Value} {Z : Value} (h : maxL L = some Z) : ∃ x r, L = x :: r ∧ (r.foldlM Builtin.max2 x).run P w = .ok Z w := by
  cases L with
  | nil => simp [maxL] at h
  | cons x r => cases x with
    | int k a => exact ⟨_, _, rfl, maxR_ok (by simpa [maxL] using h)⟩
    | _ => simp [maxL] at h
theorem OkT.get : ∀ {l : List (C ⊕ List C)} {us : List Value} {i : Nat} {x : C ⊕ List C}, OkT s e l us → l[i]? = some x → ∃ u, us[i]? = some u ∧ OkP s e x u
  | [], _, _, _, _, hx => by simp at hx
  | y :: l, _, 0, x, ⟨u, r, hu, h1, _⟩, hx => by
    simp only [List.getElem?_cons_zero, Option.some.injEq] at hx
    subst hx; rw [hu]; exact ⟨u, rfl, h1⟩
  | y :: l, _, i + 1, x, ⟨u, r, hu, _, h2⟩, hx => by
    rw [hu]; simpa using h2.get (i := i) (by simpa using hx)
/-- A value held against nil: the nil, the answer, what is read of blocks. -/
inductive NilT (P : Program) (s : Sf) (x : Operand) (t : TypeId) : Value → Bool → List Key → Prop
  | f {g : FuncId} {ca : List (Nat × Nat)} {ks : List Key} {i1 : Array TypeId} {i2 : Array TypeId} {v : Bool} : opv s x = some (.c (.f g ca)) → (∀ q ∈ ca, s (.l q.1) = some (.l true) ∧ Key.l q.1 ∈ ks) → P.underlying t = some (.func i1 i2 v) → NilT P s x t .nilFunc false ks
  | y {n : Nat} {i1 : Array TypeId} {i2 : Array TypeId} {v : Bool} : opv s x = some (.c (.y n)) → s (.l n) = some (.l true) → P.underlying t = some (.func i1 i2 v) → NilT P s x t .nilFunc false [.l n]
  | vF {i1 : Array TypeId} {i2 : Array TypeId} {v : Bool} : opv s x = some (.c (.v .nilFunc)) → P.underlying t = some (.func i1 i2 v) → NilT P s x t .nilFunc true []
  | s {n o l k : Nat} {el : TypeId} : opv s x = some (.c (.s n o l k)) → s (.l n) = some (.l true) → 0 < l + k → P.underlying t = some (.slice el) → NilT P s x t (.slice none 0 0) false [.l n]
  | g {n o l b z : Nat} {el : TypeId} : opv s x = some (.c (.g n o l b z)) → s (.l n) = some (.l true) → 0 < l + b → P.underlying t = some (.slice el) → NilT P s x t (.slice none 0 0) false [.l n]
  | vS {p : Option Addr} {l k : Nat} {el : TypeId} : opv s x = some (.c (.v (.slice p l k))) → P.underlying t = some (.slice el) → NilT P s x t (.slice none 0 0) p.isNone []
  | vP {p : Addr} {el : TypeId} : opv s x = some (.c (.v (.pointer (some p)))) → P.underlying t = some (.pointer el) → NilT P s x t (.pointer none) false []
theorem NilT.sound {x : Operand} {t : TypeId} {Y : Value} {b : Bool} {ks : List Key} (h : NilT c.P σ x t Y b ks) (hag : ∀ q ∈ ks ++ opk x, s q = σ q) (hR : Real c s e a w) :
    (binOp .eql t (a.eval x) Y).run c.P w = .ok (.bool b) w ∧ (binOp .neq t (a.eval x) Y).run c.P w = .ok (.bool !b) w ∧ ∀ op y, eqGuard op t x y (a.eval x) Y = pure () := by
  have key : ∀ X, (Op.equal t X Y).run c.P w = .ok b w → (∃ g f c, X = .func g f c) ∨ X = .nilFunc ∨ (∃ p l k, X = .slice p l k) ∨ (∃ p, X = .pointer p) → Y ≠ .nilIface → (binOp .eql t X Y).run c.P w = .ok (.bool b) w ∧ (binOp .neq t X Y).run c.P w = .ok (.bool !b) w ∧ ∀ op y, eqGuard op t x y X Y = pure () := fun X hX hs hY => by
    have e1 : (binOp .eql t X Y) = (do pure (.bool (← Op.equal t X Y))) := by rcases hs with ⟨_, _, _, rfl⟩ | rfl | ⟨_, _, _, rfl⟩ | ⟨_, rfl⟩ <;> rfl
    have e2 : (binOp .neq t X Y) = (do pure (.bool (!(← Op.equal t X Y)))) := by rcases hs with ⟨_, _, _, rfl⟩ | rfl | ⟨_, _, _, rfl⟩ | ⟨_, rfl⟩ <;> rfl
    refine ⟨by rw [e1, Sem.run_bind, hX]; rfl, by rw [e2, Sem.run_bind, hX]; rfl, fun op y => ?_⟩
    unfold eqGuard
    rcases hs with ⟨_, _, _, rfl⟩ | rfl | ⟨_, _, _, rfl⟩ | ⟨_, rfl⟩ <;> (cases op <;> rfl)
  have un : ∀ X, Op.equal t X Y = Op.equalIn (9999 + 1) t X Y := fun _ => rfl
  cases h with
  | @f g ca ks i1 i2 v hx hca hu =>
    have ex : Rep e (.f g ca) (a.eval x) := (ev1 hx hag (fun q h => by simp [h]) hR).1 fun n hn => by
      simp only [C.names, List.mem_map] at hn
      obtain ⟨q, hq, rfl⟩ := hn
      unfold live; rw [hag _ (by simp [(hca q hq).2])]; exact (hca q hq).1
    simp only [Rep] at ex
    rw [ex]
    refine key _ ?_ (.inl ⟨_, _, _, rfl⟩) (by simp)
    rw [un, Op.equalIn]; simp only [Sem.run_bind, run_underlying hu w, Result.andThen_ok]; rfl
  | @y n i1 i2 v hx hl hu =>
    have ex := ev1r hx hag (fun q h => by simp [h]) hR rfl hl (by simp)
    simp only [Rep] at ex
    rw [ex]
    refine key _ ?_ (.inl ⟨_, _, _, rfl⟩) (by simp)
    rw [un, Op.equalIn]; simp only [Sem.run_bind, run_underlying hu w, Result.andThen_ok]; rfl
  | @vF i1 i2 v hx hu =>
    rw [ev1v hx hag (fun q h => by simp [h]) hR]
    refine key _ ?_ (.inr (.inl rfl)) (by simp)
    rw [un, Op.equalIn]; simp only [Sem.run_bind, run_underlying hu w, Result.andThen_ok]; rfl
  | @s n o l k el hx hl h0 hu =>
    have ex := ev1r hx hag (fun q h => by simp [h]) hR rfl hl (by simp)
    rcases ex with ex | ⟨h1, h2, _⟩
    · rw [ex]
      refine key _ ?_ (.inr (.inr (.inl ⟨_, _, _, rfl⟩))) (by simp)
      rw [un, Op.equalIn]; simp only [Sem.run_bind, run_underlying hu w, Result.andThen_ok]; rfl
    · omega
  | @g n o l b z el hx hl h0 hu =>
    have ex := ev1r hx hag (fun q h => by simp [h]) hR rfl hl (by simp)
    rcases ex with ⟨cap, ex, _⟩ | ⟨h1, h2, _⟩
    · rw [ex]
      refine key _ ?_ (.inr (.inr (.inl ⟨_, _, _, rfl⟩))) (by simp)
      rw [un, Op.equalIn]; simp only [Sem.run_bind, run_underlying hu w, Result.andThen_ok]; rfl
    · omega
  | @vS p l k el hx hu =>
    rw [ev1v hx hag (fun q h => by simp [h]) hR]
    refine key _ ?_ (.inr (.inr (.inl ⟨_, _, _, rfl⟩))) (by simp)
    rw [un, Op.equalIn]; simp only [Sem.run_bind, run_underlying hu w, Result.andThen_ok]
    cases p <;> rfl
  | @vP p el hx hu =>
    rw [ev1v hx hag (fun q h => by simp [h]) hR]
    refine key _ ?_ (.inr (.inr (.inr ⟨_, rfl⟩))) (by simp)
    rw [un, Op.equalIn]; simp only [Sem.run_bind, run_underlying hu w, Result.andThen_ok]; rfl
/-- What an operation yields of what slots hold. -/
inductive PO (P : Program) (s : Sf) : Op → V → List Key → Prop
  | move {x : Operand} {v : V} : opv s x = some v → PO P s (.move x) v (opk x)
  | assign {x : Operand} {v : V} : opv s x = some v → PO P s (.assign x) v (opk x)
  | pickT {x y z : Operand} {v : V} : opv s x = some (.c (.v (.bool true))) → opv s y = some v → PO P s (.pick x y z) v (opk x ++ opk y)
  | pickF {x y z : Operand} {v : V} : opv s x = some (.c (.v (.bool false))) → opv s z = some v → PO P s (.pick x y z) v (opk x ++ opk z)
  | extC {x : Operand} {l : List (C ⊕ List C)} {i : Nat} {z : C} : opv s x = some (.t l) → l[i]? = some (.inl z) → PO P s (.extract x i) (.c z) (opk x)
  | extA {x : Operand} {l : List (C ⊕ List C)} {i : Nat} {z : List C} : opv s x = some (.t l) → l[i]? = some (.inr z) → PO P s (.extract x i) (.a z) (opk x)
  | field {x : Operand} {l : List C} {t : TypeId} {fs : Array Field} {f : Field} {i : Nat} {v : V} : opv s x = some (.a l) → P.underlying t = some (.struct fs) → fs[i]? = some f → partC P f.type l f.offset = some v → PO P s (.field t x i) v (opk x)
  | index {x y : Operand} {l : List C} {t el : TypeId} {len z : Nat} {k : IntKind} {j : Int} {v : V} : opv s x = some (.a l) → opv s y = some (.c (.v (.int k j))) → P.underlying t = some (.array len el) → tS P el = some z → 0 ≤ j ∧ j < len → partC P el l (j.toNat * z) = some v → PO P s (.index t x y) v (opk x ++ opk y)
  | indexS {x y : Operand} {t : TypeId} {b : ByteArray} {k : IntKind} {j : Int} {u : UInt8} : opv s x = some (.c (.v (.string b))) → opv s y = some (.c (.v (.int k j))) → P.underlying t = some .string → 0 ≤ j → b.data.toList[j.toNat]? = some u → PO P s (.index t x y) (.c (.v (.int .u8 u.toNat))) (opk x ++ opk y)
  | func {g : FuncId} {xs : List Operand} {l : List (Nat × Nat)} {ks : List Key} : Caps s xs l ks → PO P s (.makeFunc (.func g) #[] xs.toArray) (.c (.f g l)) ks
  | fieldAddr {x : Operand} {n o i k : Nat} {t : TypeId} {fs : Array Field} {f : Field} : opv s x = some (.c (.p n o)) → s (.l n) = some (.l true) → P.underlying t = some (.struct fs) → fs[i]? = some f → tS P f.type = some k → k ≠ 0 → PO P s (.fieldAddr t x i) (.c (.p n (o + f.offset))) (.l n :: opk x)
  | indexAddr {x y : Operand} {n o len z : Nat} {t el : TypeId} {k : IntKind} {j : Int} : opv s x = some (.c (.p n o)) → s (.l n) = some (.l true) → opv s y = some (.c (.v (.int k j))) → P.underlying t = some (.array len el) → tS P el = some z → 0 ≤ j ∧ j < len → PO P s (.indexAddr t x y) (.c (.p n (o + j.toNat * z))) (.l n :: (opk x ++ opk y))
  | indexAddrS {x y : Operand} {n o len cap z : Nat} {t el : TypeId} {k : IntKind} {j : Int} : opv s x = some (.c (.s n o len cap)) → s (.l n) = some (.l true) → opv s y = some (.c (.v (.int k j))) → P.underlying t = some (.slice el) → tS P el = some z → 0 ≤ j ∧ j < len → PO P s (.indexAddr t x y) (.c (.p n (o + j.toNat * z))) (.l n :: (opk x ++ opk y))
  | indexAddrG {x y : Operand} {n o len lb z' z : Nat} {t el : TypeId} {k : IntKind} {j : Int} : opv s x = some (.c (.g n o len lb z')) → s (.l n) = some (.l true) → opv s y = some (.c (.v (.int k j))) → P.underlying t = some (.slice el) → tS P el = some z → 0 ≤ j ∧ j < len → PO P s (.indexAddr t x y) (.c (.p n (o + j.toNat * z))) (.l n :: (opk x ++ opk y))
  | sliceS {x : Operand} {lo hi mx : Option Operand} {n o len cap z l h m : Nat} {lo' hi' mx' : Option Int} {t el : TypeId} {k1 k2 k3 : List Key} : opv s x = some (.c (.s n o len cap)) → s (.l n) = some (.l true) → OptI s lo lo' k1 → OptI s hi hi' k2 → OptI s mx mx' k3 → P.underlying t = some (.slice el) → tS P el = some z → bnd len cap lo' hi' mx' l h m → l ≤ h → h ≤ m →
      PO P s (.slice t x lo hi mx) (.c (.s n (o + l * z) (h - l) (m - l))) (.l n :: (opk x ++ (k1 ++ (k2 ++ k3))))
  | sliceG {x : Operand} {lo hi : Option Operand} {n o len lb z l h : Nat} {lo' hi' : Option Int} {t el : TypeId} {k1 k2 : List Key} : opv s x = some (.c (.g n o len lb z)) → s (.l n) = some (.l true) → OptI s lo lo' k1 → OptI s hi hi' k2 → P.underlying t = some (.slice el) → tS P el = some z → bnd len (max len lb) lo' hi' none l h (max len lb) → l ≤ h →
      PO P s (.slice t x lo hi none) (.c (.g n (o + l * z) (h - l) (max len lb - l) z)) (.l n :: (opk x ++ (k1 ++ k2)))
  | sliceG3 {x z0 : Operand} {lo hi : Option Operand} {n o len lb z l h m : Nat} {lo' hi' mx' : Option Int} {t el : TypeId} {k1 k2 k3 : List Key} : opv s x = some (.c (.g n o len lb z)) → s (.l n) = some (.l true) → OptI s lo lo' k1 → OptI s hi hi' k2 → OptI s (some z0) mx' k3 → P.underlying t = some (.slice el) → tS P el = some z → bnd len (max len lb) lo' hi' mx' l h m → l ≤ h → h ≤ m →
      PO P s (.slice t x lo hi (some z0)) (.c (.s n (o + l * z) (h - l) (m - l))) (.l n :: (opk x ++ (k1 ++ (k2 ++ k3))))
  | sliceP {x : Operand} {lo hi mx : Option Operand} {n o len z l h m : Nat} {lo' hi' mx' : Option Int} {t el : TypeId} {k1 k2 k3 : List Key} : opv s x = some (.c (.p n o)) → s (.l n) = some (.l true) → OptI s lo lo' k1 → OptI s hi hi' k2 → OptI s mx mx' k3 → P.underlying t = some (.array len el) → tS P el = some z → bnd len len lo' hi' mx' l h m → l ≤ h → h ≤ m →
      PO P s (.slice t x lo hi mx) (.c (.s n (o + l * z) (h - l) (m - l))) (.l n :: (opk x ++ (k1 ++ (k2 ++ k3))))
  | sliceT {x : Operand} {lo hi : Option Operand} {b : ByteArray} {l h m : Nat} {lo' hi' : Option Int} {t : TypeId} {k1 k2 : List Key} : opv s x = some (.c (.v (.string b))) → OptI s lo lo' k1 → OptI s hi hi' k2 → P.underlying t = some .string → bnd b.data.size b.data.size lo' hi' none l h m →
      PO P s (.slice t x lo hi none) (.c (.v (.string (b.extract l h)))) (opk x ++ (k1 ++ k2))
  | sliceN {x : Operand} {lo hi mx : Option Operand} {z l h m : Nat} {lo' hi' mx' : Option Int} {t el : TypeId} {k1 k2 k3 : List Key} : opv s x = some (.c (.v (.slice none 0 0))) → OptI s lo lo' k1 → OptI s hi hi' k2 → OptI s mx mx' k3 → P.underlying t = some (.slice el) → tS P el = some z → bnd 0 0 lo' hi' mx' l h m → l ≤ h → h ≤ m →
      PO P s (.slice t x lo hi mx) (.c (.v (.slice none 0 0))) (opk x ++ (k1 ++ (k2 ++ k3)))
  | nilCheck {x : Operand} {n o : Nat} : opv s x = some (.c (.p n o)) → s (.l n) = some (.l true) → PO P s (.nilCheck x) (.c (.p n o)) (.l n :: opk x)
  | nilCheckP {x : Operand} {b : Addr} : opv s x = some (.c (.v (.pointer (some b)))) → PO P s (.nilCheck x) (.c (.v (.pointer (some b)))) (opk x)
  | nilCheckF {x : Operand} {g : FuncId} {ca : List (Nat × Nat)} {ks : List Key} : opv s x = some (.c (.f g ca)) → (∀ q ∈ ca, s (.l q.1) = some (.l true) ∧ Key.l q.1 ∈ ks) → PO P s (.nilCheck x) (.c (.f g ca)) (ks ++ opk x)
  | nilCheckY {x : Operand} {n : Nat} : opv s x = some (.c (.y n)) → s (.l n) = some (.l true) → PO P s (.nilCheck x) (.c (.y n)) (.l n :: opk x)
  | un {op : UnOp} {x : Operand} {X Z : Value} {t : TypeId} : opv s x = some (.c (.v X)) → unC op X = some Z → PO P s (.unOp op t x) (.c (.v Z)) (opk x)
  | bin {op : BinOp} {x y : Operand} {X Y Z : Value} {t ty : TypeId} : opv s x = some (.c (.v X)) → opv s y = some (.c (.v Y)) → binC P t op X Y = some Z → PO P s (.binOp op t x y ty) (.c (.v Z)) (opk x ++ opk y)
  | eqA {x y : Operand} {l m : List C} {L M : List Value} {t ty : TypeId} : opv s x = some (.a l) → opv s y = some (.a m) → plainL l = some L → plainL m = some M → eqOkB P t L M = true → PO P s (.binOp .eql t x y ty) (.c (.v (.bool (eqs L M)))) (opk x ++ opk y)
  | neA {x y : Operand} {l m : List C} {L M : List Value} {t ty : TypeId} : opv s x = some (.a l) → opv s y = some (.a m) → plainL l = some L → plainL m = some M → eqOkB P t L M = true → PO P s (.binOp .neq t x y ty) (.c (.v (.bool (!eqs L M)))) (opk x ++ opk y)
  | eqN {x y : Operand} {n o : Nat} {t ty el : TypeId} : opv s x = some (.c (.p n o)) → s (.l n) = some (.l true) → opv s y = some (.c (.v (.pointer none))) → P.underlying t = some (.pointer el) → PO P s (.binOp .eql t x y ty) (.c (.v (.bool false))) (.l n :: (opk x ++ opk y))
  | neN {x y : Operand} {n o : Nat} {t ty el : TypeId} : opv s x = some (.c (.p n o)) → s (.l n) = some (.l true) → opv s y = some (.c (.v (.pointer none))) → P.underlying t = some (.pointer el) → PO P s (.binOp .neq t x y ty) (.c (.v (.bool true))) (.l n :: (opk x ++ opk y))
  | nilEq {x y : Operand} {t ty : TypeId} {Y : Value} {b : Bool} {ks : List Key} : NilT P s x t Y b ks → opv s y = some (.c (.v Y)) → PO P s (.binOp .eql t x y ty) (.c (.v (.bool b))) ((ks ++ opk x) ++ opk y)
  | nilNe {x y : Operand} {t ty : TypeId} {Y : Value} {b : Bool} {ks : List Key} : NilT P s x t Y b ks → opv s y = some (.c (.v Y)) → PO P s (.binOp .neq t x y ty) (.c (.v (.bool !b))) ((ks ++ opk x) ++ opk y)
  | conv {x : Operand} {k k' : IntKind} {n : Int} {d : TypeDesc} {src dst : TypeId} : opv s x = some (.c (.v (.int k n))) → P.underlying src = some d → P.underlying dst = some (.int k') → PO P s (.convert src dst x) (.c (.v (.int k' (k'.wrap n)))) (opk x)
  | convS {x : Operand} {b : ByteArray} {d : TypeDesc} {src dst : TypeId} : opv s x = some (.c (.v (.string b))) → P.underlying src = some d → P.underlying dst = some .string → PO P s (.convert src dst x) (.c (.v (.string b))) (opk x)
  | lenS {x : Operand} {n o len cap : Nat} {t el : TypeId} : opv s x = some (.c (.s n o len cap)) → s (.l n) = some (.l true) → P.underlying t = some (.slice el) → PO P s (.call ⟨.builtin .len, #[x], #[t]⟩) (.c (.v (.int .i64 len))) (.l n :: opk x)
  | lenG {x : Operand} {n o len lb z : Nat} {t el : TypeId} : opv s x = some (.c (.g n o len lb z)) → s (.l n) = some (.l true) → P.underlying t = some (.slice el) → PO P s (.call ⟨.builtin .len, #[x], #[t]⟩) (.c (.v (.int .i64 len))) (.l n :: opk x)
  | lenT {x : Operand} {b : ByteArray} {t : TypeId} : opv s x = some (.c (.v (.string b))) → P.underlying t = some .string → PO P s (.call ⟨.builtin .len, #[x], #[t]⟩) (.c (.v (.int .i64 b.data.size))) (opk x)
  | lenN {x : Operand} {n cap : Nat} {p : Option Addr} {t el : TypeId} : opv s x = some (.c (.v (.slice p n cap))) → P.underlying t = some (.slice el) → PO P s (.call ⟨.builtin .len, #[x], #[t]⟩) (.c (.v (.int .i64 n))) (opk x)
  | capS {x : Operand} {n o len cap : Nat} {t el : TypeId} : opv s x = some (.c (.s n o len cap)) → s (.l n) = some (.l true) → P.underlying t = some (.slice el) → PO P s (.call ⟨.builtin .cap, #[x], #[t]⟩) (.c (.v (.int .i64 cap))) (.l n :: opk x)
  | mins {xs : List Operand} {L : List Value} {ks : List Key} {Z : Value} {ty : Array TypeId} : Vals s xs (L.map fun X => .c (.v X)) ks → minL L = some Z → PO P s (.call ⟨.builtin .min, xs.toArray, ty⟩) (.c (.v Z)) ks
  | maxs {xs : List Operand} {L : List Value} {ks : List Key} {Z : Value} {ty : Array TypeId} : Vals s xs (L.map fun X => .c (.v X)) ks → maxL L = some Z → PO P s (.call ⟨.builtin .max, xs.toArray, ty⟩) (.c (.v Z)) ks
  | run {op : Op} {xs : List Operand} {L : List Value} {ks : List Key} {Z : Value} : Vals s xs (L.map fun X => .c (.v X)) ks → (∀ (ρ : Operand → Value) (o : Oper) w, o.op = op → xs.map ρ = L → (execOp ρ o).run P w = .ok (.value Z) w) → PO P s op (.c (.v Z)) ks
theorem run_bin {x y : Operand} {op : BinOp} {t ty rt : TypeId} {d : Option Tmp} {pos : String} {af : Array Edge} {g : Option (Nat × Bool)} {X Y Z : Value} {P : Program} (ex : a.eval x = X) (ey : a.eval y = Y) (h : (do eqGuard op t x y X Y; binOp op t X Y : Sem Value).run P w = .ok Z w) :
    (execOp a.eval ⟨d, .binOp op t x y ty, rt, pos, af, g⟩).run P w = .ok (.value Z) w := by
  subst ex ey
  simp only [execOp]
  rw [Sem.run_bind, h]; rfl
theorem alive_ne {n : Nat} {ks : List Key} (hag : ∀ q ∈ ks, s q = σ q) (hl : σ (.l n) = some (.l true)) (hk : Key.l n ∈ ks) : s (.l n) ≠ none := by rw [hag _ hk, hl]; simp
theorem run_sliceU {P : Program} {isl : Bool} {t el : TypeId} {p : Option Addr} {len cap l h m z : Nat} {lo hi mx : Option Value} (ht : P.underlying t = some (.slice el)) (hz : tS P el = some z) (hb : (Instr.sliceBounds true len cap lo hi mx).run P w = .ok (l, h, m) w) :
    (Instr.sliceAt t (.slice p len cap) lo hi mx).run P w = .ok (.slice (if m = l then p else p.map (·.add (l * z))) (h - l) (m - l)) w := by
  simp only [Instr.sliceAt, Instr.slice, Sem.run_bind, run_underlying ht, Result.andThen_ok, hb, run_sz hz, Sem.run_pure]
theorem run_sliceA {P : Program} {t el : TypeId} {p : Addr} {len l h m z : Nat} {lo hi mx : Option Value} (ht : P.underlying t = some (.array len el)) (hz : tS P el = some z) (hb : (Instr.sliceBounds false len len lo hi mx).run P w = .ok (l, h, m) w) :
    (Instr.sliceAt t (.pointer (some p)) lo hi mx).run P w = .ok (.slice (some (if m = l then p else p.add (l * z))) (h - l) (m - l)) w := by
  simp only [Instr.sliceAt, Instr.sureAddr, Sem.run_bind, run_underlying ht, Result.andThen_ok, hb, run_sz hz, Sem.run_pure]
theorem OptI.run {x : Option Operand} {i : Option Int} {ks : List Key} (h : OptI σ x i ks) (hag : ∀ q ∈ ks, s q = σ q) (hR : Real c s e a w) : (x.map a.eval = none ∧ i = none) ∨ ∃ k j, x.map a.eval = some (.int k j) ∧ i = some j := by
  rcases h.agree hag hR with ⟨rfl, rfl⟩ | ⟨y, k, j, rfl, rfl, h'⟩
  · exact .inl ⟨rfl, rfl⟩
  · exact .inr ⟨k, j, h', rfl⟩
theorem add_mid (b o j : Nat) : (⟨b, o, none⟩ : Addr).add j = ⟨b, o + j, none⟩ := Addr.add_mid b o j
theorem PO.sound {op : Op} {v : V} {ks : List Key} (h : PO c.P σ op v ks) (hag : ∀ q ∈ ks, s q = σ q) (hR : Real c s e a w) {d : Option Tmp} {rt : TypeId} {pos : String} {af : Array Edge} {g : Option (Nat × Bool)} :
    ∃ u, (execOp a.eval ⟨d, op, rt, pos, af, g⟩).run c.P w = .ok (.value u) w ∧ OkV s e v u ∧ ∀ n ∈ v.names, s (.l n) ≠ none := by
  cases h with
  | @move x v hx =>
    obtain ⟨h1, h2⟩ := ev1 hx hag (fun q h => h) hR
    exact ⟨_, rfl, h1, h2⟩
  | @assign x v hx =>
    obtain ⟨h1, h2⟩ := ev1 hx hag (fun q h => h) hR
    exact ⟨_, rfl, h1, h2⟩
  | @pickT x y z v hx hy =>
    obtain ⟨h1, h2⟩ := ev1 hy hag (fun q h => by simp [h]) hR
    exact ⟨_, by simp [execOp, ev1v hx hag (fun q h => by simp [h]) hR, asBool], h1, h2⟩
  | @pickF x y z v hx hz =>
    obtain ⟨h1, h2⟩ := ev1 hz hag (fun q h => by simp [h]) hR
    exact ⟨_, by simp [execOp, ev1v hx hag (fun q h => by simp [h]) hR, asBool], h1, h2⟩
  | @extC x l i z hx hl =>
    obtain ⟨⟨us, hu, h1⟩, h2⟩ := ev1 hx hag (fun q h => h) hR
    obtain ⟨u, h3, h4⟩ := h1.get hl
    exact ⟨u, by simp [execOp, hu, Instr.extract, h3], h4, fun n hn => h2 n (by simp only [V.names, List.mem_flatMap]; exact ⟨_, List.mem_of_getElem? hl, hn⟩)⟩
  | @extA x l i z hx hl =>
    obtain ⟨⟨us, hu, h1⟩, h2⟩ := ev1 hx hag (fun q h => h) hR
    obtain ⟨u, h3, h4⟩ := h1.get hl
    exact ⟨u, by simp [execOp, hu, Instr.extract, h3], h4, fun n hn => h2 n (by simp only [V.names, List.mem_flatMap]; exact ⟨_, List.mem_of_getElem? hl, hn⟩)⟩
  | @field x l t fs f i v hx ht hf hp =>
    obtain ⟨⟨us, hu, h1⟩, h2⟩ := ev1 hx hag (fun q h => h) hR
    obtain ⟨u, h3, h4, h5⟩ := part_ok (w := w) hp h1
    exact ⟨u, by simp [execOp, hu, Instr.field, run_underlying ht, hf, asAgg, h3], h4, fun n hn => h2 n (h5 n hn)⟩
  | @index x y l t el len z k j v hx hy ht hz hj hp =>
    obtain ⟨⟨us, hu, h1⟩, h2⟩ := ev1 hx hag (fun q h => by simp [h]) hR
    obtain ⟨u, h3, h4, h5⟩ := part_ok (w := w) hp h1
    exact ⟨u, by simp [execOp, hu, ev1v hy hag (fun q h => by simp [h]) hR, Instr.index, asIntOf, run_underlying ht, hj, run_sz hz, h3], h4, fun n hn => h2 n (h5 n hn)⟩
  | @indexS x y t b k j u hx hy ht hj hu =>
    refine ⟨_, ?_, Ok.of, fun n hn => by cases hn⟩
    have hb : b[j.toNat]? = some u := by
      rw [Array.getElem?_toList] at hu
      rw [← hu]; rfl
    simp [execOp, ev1v hx hag (fun q h => by simp [h]) hR, ev1v hy hag (fun q h => by simp [h]) hR, Instr.index, asIntOf, run_underlying ht, hj, hb]
  | @func g xs l ks hc =>
    refine ⟨_, rfl, fun _ => ?_, fun n hn => hc.al hag n (by simpa [V.names, C.names] using hn)⟩
    have := hc.agree hag hR
    simp [Rep, Instr.makeFunc, this]
  | @fieldAddr x n o i k t fs f hx hl ht hf hk h0 =>
    have ex := ev1r hx hag (fun q h => by simp [h]) hR rfl hl (by simp)
    simp only [Rep] at ex
    refine ⟨.pointer (some ⟨e.id n, e.bs n + (o + f.offset), none⟩), ?_, fun _ => rfl, fun m hm => ?_⟩
    · simp [execOp, ex, Instr.fieldAt, run_underlying ht, hf, Instr.sureAddr, fieldPlace, run_sz hk, h0, add_mid, Nat.add_assoc]
    · simp [V.names, C.names] at hm; subst hm; exact alive_ne hag hl (by simp)
  | @indexAddr x y n o len z t el k j hx hl hy ht hz hj =>
    have ex := ev1r hx hag (fun q h => by simp [h]) hR rfl hl (by simp)
    simp only [Rep] at ex
    refine ⟨.pointer (some ⟨e.id n, e.bs n + (o + j.toNat * z), none⟩), ?_, fun _ => rfl, fun m hm => ?_⟩
    · simp [execOp, ex, ev1v hy hag (fun q h => by simp [h]) hR, Instr.indexAt, asIntOf, run_underlying ht, Instr.sureAddr, hj, run_sz hz, add_mid, Nat.add_assoc]
    · simp [V.names, C.names] at hm; subst hm; exact alive_ne hag hl (by simp)
  | @indexAddrS x y n o len cap z t el k j hx hl hy ht hz hj =>
    have ex := ev1r hx hag (fun q h => by simp [h]) hR rfl hl (by simp)
    refine ⟨.pointer (some ⟨e.id n, e.bs n + (o + j.toNat * z), none⟩), ?_, fun _ => rfl, fun m hm => ?_⟩
    · rcases ex with ex | ⟨h0, _⟩
      · simp [execOp, ex, ev1v hy hag (fun q h => by simp [h]) hR, Instr.indexAt, asIntOf, run_underlying ht, hj, run_sz hz, add_mid, Nat.add_assoc]
      · omega
    · simp [V.names, C.names] at hm; subst hm; exact alive_ne hag hl (by simp)
  | @indexAddrG x y n o len lb z' z t el k j hx hl hy ht hz hj =>
    have ex := ev1r hx hag (fun q h => by simp [h]) hR rfl hl (by simp)
    refine ⟨.pointer (some ⟨e.id n, e.bs n + (o + j.toNat * z), none⟩), ?_, fun _ => rfl, fun m hm => ?_⟩
    · rcases ex with ⟨kk, ex, _⟩ | ⟨h0, _⟩
      · simp [execOp, ex, ev1v hy hag (fun q h => by simp [h]) hR, Instr.indexAt, asIntOf, run_underlying ht, hj, run_sz hz, add_mid, Nat.add_assoc]
      · omega
    · simp [V.names, C.names] at hm; subst hm; exact alive_ne hag hl (by simp)
  | @sliceS x lo hi mx n o len cap z l h m lo' hi' mx' t el k1 k2 k3 hx hl h1 h2 h3 ht hz hb hlh hhm =>
    have ex := ev1r hx hag (fun q h => by simp [h]) hR rfl hl (by simp)
    have hn : ∀ m' ∈ (V.c (.s n (o + l * z) (h - l) (m - l))).names, s (.l m') ≠ none := fun m' hm => by
      simp [V.names, C.names] at hm; subst hm; exact alive_ne hag hl (by simp)
    have hbr := run_bounds (w := w) (P := c.P) (isS := true) hb (h1.run (fun q hq => hag q (by simp [hq])) hR) (h2.run (fun q hq => hag q (by simp [hq])) hR) (h3.run (fun q hq => hag q (by simp [hq])) hR)
    rcases ex with ex | ⟨rfl, rfl, p, ex⟩
    · have hr := run_sliceU (isl := true) (p := some ⟨e.id n, e.bs n + o, none⟩) ht hz hbr
      refine ⟨_, by simp only [execOp, ex]; rw [Sem.run_bind, hr]; rfl, fun _ => ?_, hn⟩
      by_cases hml : m = l
      · exact .inr ⟨by omega, by omega, some ⟨e.id n, e.bs n + o, none⟩, by rw [if_pos hml, show h - l = 0 by omega, show m - l = 0 by omega]⟩
      · exact .inl (by rw [if_neg hml]; simp [add_mid, Nat.add_assoc])
    · have hr := run_sliceU (isl := true) (p := p) ht hz hbr
      have hm0 : m = 0 := by
        have := hb.1
        cases mx' with
        | none => simpa using this
        | some i => simp only at this; omega
      refine ⟨_, by simp only [execOp, ex]; rw [Sem.run_bind, hr]; rfl, fun _ => .inr ⟨by omega, by omega, p, ?_⟩, hn⟩
      rw [if_pos (by omega), show h - l = 0 by omega, show m - l = 0 by omega]
  | @sliceG x lo hi n o len lb z l h lo' hi' t el k1 k2 hx hl h1 h2 ht hz hb hlh =>
    have ex := ev1r hx hag (fun q h => by simp [h]) hR rfl hl (by simp)
    have hn : ∀ m' ∈ (V.c (.g n (o + l * z) (h - l) (max len lb - l) z)).names, s (.l m') ≠ none := fun m' hm => by
      simp [V.names, C.names] at hm; subst hm; exact alive_ne hag hl (by simp)
    have hh : h ≤ max len lb := by
      have := hb.2.1
      cases hi' with
      | none => simp only at this; omega
      | some i => simp only at this; omega
    rcases ex with ⟨k, ex, hk1, hk2, hk3, hk4⟩ | ⟨rfl, rfl, p, ex⟩
    · have hb' : bnd len k lo' hi' none l h k := by
        refine ⟨rfl, ?_, hb.2.2⟩
        have := hb.2.1
        cases hi' with
        | none => exact this
        | some i => simp only at this ⊢; omega
      have hbr := run_bounds (w := w) (P := c.P) (isS := true) (z := none) hb' (h1.run (fun q hq => hag q (by simp [hq])) hR) (h2.run (fun q hq => hag q (by simp [hq])) hR) (.inl ⟨rfl, rfl⟩)
      have hr := run_sliceU (isl := true) (p := some ⟨e.id n, e.bs n + o, none⟩) ht hz hbr
      refine ⟨_, by simp only [execOp, ex, Option.map_none]; rw [Sem.run_bind, hr]; rfl, fun _ => ?_, hn⟩
      by_cases hml : k = l
      · exact .inr ⟨by omega, by omega, some ⟨e.id n, e.bs n + o, none⟩, by rw [if_pos hml, show h - l = 0 by omega, show k - l = 0 by omega]⟩
      · refine .inl ⟨k - l, by rw [if_neg hml]; simp [add_mid, Nat.add_assoc], by omega, by omega, by omega, ?_⟩
        have : o + l * z + (k - l) * z = o + k * z := by
          rw [Nat.add_assoc, ← Nat.add_mul]; congr 2; omega
        omega
    · have hbr := run_bounds (w := w) (P := c.P) (isS := true) (z := none) hb (h1.run (fun q hq => hag q (by simp [hq])) hR) (h2.run (fun q hq => hag q (by simp [hq])) hR) (.inl ⟨rfl, rfl⟩)
      have hr := run_sliceU (isl := true) (p := p) ht hz hbr
      have e0 : max 0 0 = 0 := rfl
      rw [e0] at hh hr hbr ⊢
      refine ⟨_, by simp only [execOp, ex, Option.map_none]; rw [Sem.run_bind, hr]; rfl, fun _ => .inr ⟨by omega, by omega, p, ?_⟩, hn⟩
      rw [if_pos (by omega), show h - l = 0 by omega, show 0 - l = 0 by omega]
  | @sliceG3 x z0 lo hi n o len lb z l h m lo' hi' mx' t el k1 k2 k3 hx hl h1 h2 h3 ht hz hb hlh hhm =>
    have ex := ev1r hx hag (fun q h => by simp [h]) hR rfl hl (by simp)
    have hn : ∀ m' ∈ (V.c (.s n (o + l * z) (h - l) (m - l))).names, s (.l m') ≠ none := fun m' hm => by
      simp [V.names, C.names] at hm; subst hm; exact alive_ne hag hl (by simp)
    have h3r := h3.run (fun q hq => hag q (by simp [hq])) hR
    have hmx : ∃ i, mx' = some i := by
      rcases h3r with ⟨h, _⟩ | ⟨k, j, _, h⟩
      · cases h
      · exact ⟨j, h⟩
    obtain ⟨i, rfl⟩ := hmx
    have hm := hb.1
    simp only at hm
    rcases ex with ⟨k, ex, hk1, hk2, hk3, hk4⟩ | ⟨rfl, rfl, p, ex⟩
    · have hb' : bnd len k lo' hi' (some i) l h m := ⟨by simp only; omega, hb.2.1, hb.2.2⟩
      have hbr := run_bounds (w := w) (P := c.P) (isS := true) hb' (h1.run (fun q hq => hag q (by simp [hq])) hR) (h2.run (fun q hq => hag q (by simp [hq])) hR) h3r
      have hr := run_sliceU (isl := true) (p := some ⟨e.id n, e.bs n + o, none⟩) ht hz hbr
      refine ⟨_, by simp only [execOp, ex]; rw [Sem.run_bind, hr]; rfl, fun _ => ?_, hn⟩
      by_cases hml : m = l
      · exact .inr ⟨by omega, by omega, some ⟨e.id n, e.bs n + o, none⟩, by rw [if_pos hml, show h - l = 0 by omega, show m - l = 0 by omega]⟩
      · exact .inl (by rw [if_neg hml]; simp [add_mid, Nat.add_assoc])
    · have hbr := run_bounds (w := w) (P := c.P) (isS := true) hb (h1.run (fun q hq => hag q (by simp [hq])) hR) (h2.run (fun q hq => hag q (by simp [hq])) hR) h3r
      have hr := run_sliceU (isl := true) (p := p) ht hz hbr
      have e0 : max 0 0 = 0 := rfl
      rw [e0] at hm hr hbr
      refine ⟨_, by simp only [execOp, ex]; rw [Sem.run_bind, hr]; rfl, fun _ => .inr ⟨by omega, by omega, p, ?_⟩, hn⟩
      rw [if_pos (by omega), show h - l = 0 by omega, show m - l = 0 by omega]
  | @sliceP x lo hi mx n o len z l h m lo' hi' mx' t el k1 k2 k3 hx hl h1 h2 h3 ht hz hb hlh hhm =>
    have ex := ev1r hx hag (fun q h => by simp [h]) hR rfl hl (by simp)
    simp only [Rep] at ex
    have hn : ∀ m' ∈ (V.c (.s n (o + l * z) (h - l) (m - l))).names, s (.l m') ≠ none := fun m' hm => by
      simp [V.names, C.names] at hm; subst hm; exact alive_ne hag hl (by simp)
    have hbr := run_bounds (w := w) (P := c.P) (isS := false) hb (h1.run (fun q hq => hag q (by simp [hq])) hR) (h2.run (fun q hq => hag q (by simp [hq])) hR) (h3.run (fun q hq => hag q (by simp [hq])) hR)
    have hr := run_sliceA (p := ⟨e.id n, e.bs n + o, none⟩) ht hz hbr
    refine ⟨_, by simp only [execOp, ex]; rw [Sem.run_bind, hr]; rfl, fun _ => ?_, hn⟩
    by_cases hml : m = l
    · exact .inr ⟨by omega, by omega, some ⟨e.id n, e.bs n + o, none⟩, by rw [if_pos hml, show h - l = 0 by omega, show m - l = 0 by omega]⟩
    · exact .inl (by rw [if_neg hml]; simp [add_mid, Nat.add_assoc])
  | @sliceN x lo hi mx z l h m lo' hi' mx' t el k1 k2 k3 hx h1 h2 h3 ht hz hb hlh hhm =>
    have ex := ev1v hx hag (fun q h => by simp [h]) hR
    have hbr := run_bounds (w := w) (P := c.P) (isS := true) hb (h1.run (fun q hq => hag q (by simp [hq])) hR) (h2.run (fun q hq => hag q (by simp [hq])) hR) (h3.run (fun q hq => hag q (by simp [hq])) hR)
    have hr := run_sliceU (isl := true) (p := none) ht hz hbr
    have hm0 : m ≤ 0 := by
      have := hb.1
      cases mx' with
      | none => simp only at this; omega
      | some i => simp only at this; omega
    have e1 : m = 0 := by omega
    have e2 : l = 0 := by omega
    have e3 : h = 0 := by omega
    subst e1 e2 e3
    refine ⟨_, by simp only [execOp, ex]; rw [Sem.run_bind, hr]; rfl, Ok.of, fun n hn => by cases hn⟩
  | @sliceT x lo hi b l h m lo' hi' t k1 k2 hx h1 h2 ht hb =>
    have hbr := run_bounds (w := w) (P := c.P) (isS := false) (z := none) hb (h1.run (fun q hq => hag q (by simp [hq])) hR) (h2.run (fun q hq => hag q (by simp [hq])) hR) (.inl ⟨rfl, rfl⟩)
    refine ⟨.string (b.extract l h), ?_, Ok.of, fun n hn => by cases hn⟩
    have e1 : b.size = b.data.size := rfl
    simp only [execOp, ev1v hx hag (fun q h => by simp [h]) hR, Option.map_none, Instr.sliceAt, Instr.slice, Sem.run_bind, run_underlying ht, Result.andThen_ok, Option.isSome_none, Bool.false_eq_true, if_false, Sem.run_pure, e1, hbr]
  | @nilCheck x n o hx hl =>
    have ex := ev1r hx hag (fun q h => by simp [h]) hR rfl hl (by simp)
    simp only [Rep] at ex
    refine ⟨_, by simp only [execOp, ex]; rfl, fun _ => rfl, fun m hm => ?_⟩
    simp [V.names, C.names] at hm; subst hm; exact alive_ne hag hl (by simp)
  | @nilCheckP x b hx =>
    exact ⟨_, by simp only [execOp, ev1v hx hag (fun q h => h) hR]; rfl, Ok.of, fun n hn => by cases hn⟩
  | @nilCheckF x g ca ks hx hl =>
    obtain ⟨h1, h2⟩ := ev1 hx hag (fun q h => by simp [h]) hR
    have h3 : Rep e (.f g ca) (a.eval x) := h1 fun n hn => by
      simp only [C.names, List.mem_map] at hn
      obtain ⟨q, hq, rfl⟩ := hn
      unfold live; rw [hag _ (by simp [(hl q hq).2])]; exact (hl q hq).1
    simp only [Rep] at h3
    exact ⟨_, by simp only [execOp, h3]; rfl, fun _ => rfl, h2⟩
  | @nilCheckY x n hx hl =>
    have ex := ev1r hx hag (fun q h => by simp [h]) hR rfl hl (by simp)
    simp only [Rep] at ex
    refine ⟨_, by simp only [execOp, ex]; rfl, fun _ => rfl, fun m hm => ?_⟩
    simp [V.names, C.names] at hm; subst hm; exact alive_ne hag hl (by simp)
  | @un op x X Z t hx hz =>
    exact ⟨_, by simp only [execOp, ev1v hx hag (fun q h => h) hR]; rw [Sem.run_bind, unC_ok hz]; rfl, Ok.of, fun n hn => by cases hn⟩
  | @bin op x y X Y Z t ty hx hy hz =>
    exact ⟨_, run_bin (ev1v hx hag (fun q h => by simp [h]) hR) (ev1v hy hag (fun q h => by simp [h]) hR) (binC_ok hz), Ok.of, fun n hn => by cases hn⟩
  | @eqA x y l m L M t ty hx hy hl hm hk =>
    obtain ⟨⟨us, hu, h1⟩, _⟩ := ev1 hx hag (fun q h => by simp [h]) hR
    obtain ⟨⟨vs, hv, h2⟩, _⟩ := ev1 hy hag (fun q h => by simp [h]) hR
    rw [plainL_eq hl] at h1; rw [plainL_eq hm] at h2
    rw [h1.eq] at hu; rw [h2.eq] at hv
    obtain ⟨a1, a2, a3⟩ := eqOk_eql hk w
    refine ⟨_, run_bin hu hv ?_, Ok.of, fun n hn => by cases hn⟩
    simp only [Sem.run_bind, run_eqGuard_agg w _ t x y _ _ a3, Result.andThen_ok, a1]
  | @neA x y l m L M t ty hx hy hl hm hk =>
    obtain ⟨⟨us, hu, h1⟩, _⟩ := ev1 hx hag (fun q h => by simp [h]) hR
    obtain ⟨⟨vs, hv, h2⟩, _⟩ := ev1 hy hag (fun q h => by simp [h]) hR
    rw [plainL_eq hl] at h1; rw [plainL_eq hm] at h2
    rw [h1.eq] at hu; rw [h2.eq] at hv
    obtain ⟨a1, a2, a3⟩ := eqOk_eql hk w
    refine ⟨_, run_bin hu hv ?_, Ok.of, fun n hn => by cases hn⟩
    simp only [Sem.run_bind, run_eqGuard_agg w _ t x y _ _ a3, Result.andThen_ok, a2]
  | @eqN x y n o t ty el hx hl hy ht =>
    have ex := ev1r hx hag (fun q h => by simp [h]) hR rfl hl (by simp)
    simp only [Rep] at ex
    refine ⟨_, run_bin ex (ev1v hy hag (fun q h => by simp [h]) hR) ?_, Ok.of, fun n hn => by cases hn⟩
    have e1 : (Op.equal t (.pointer (some ⟨e.id n, e.bs n + o, none⟩)) (.pointer none)).run c.P w = .ok false w := by
      have : Op.equal t (.pointer (some ⟨e.id n, e.bs n + o, none⟩)) (.pointer none) = Op.equalIn (9999 + 1) t (.pointer (some ⟨e.id n, e.bs n + o, none⟩)) (.pointer none) := rfl
      rw [this, Op.equalIn]; simp only [Sem.run_bind, run_underlying ht w, Result.andThen_ok]; rfl
    have e2 : eqGuard .eql t x y (.pointer (some ⟨e.id n, e.bs n + o, none⟩)) (.pointer none) = pure () := rfl
    rw [e2]; simp only [Sem.run_bind, Sem.run_pure, Result.andThen_ok, binOp, e1]
  | @neN x y n o t ty el hx hl hy ht =>
    have ex := ev1r hx hag (fun q h => by simp [h]) hR rfl hl (by simp)
    simp only [Rep] at ex
    refine ⟨_, run_bin ex (ev1v hy hag (fun q h => by simp [h]) hR) ?_, Ok.of, fun n hn => by cases hn⟩
    have e1 : (Op.equal t (.pointer (some ⟨e.id n, e.bs n + o, none⟩)) (.pointer none)).run c.P w = .ok false w := by
      have : Op.equal t (.pointer (some ⟨e.id n, e.bs n + o, none⟩)) (.pointer none) = Op.equalIn (9999 + 1) t (.pointer (some ⟨e.id n, e.bs n + o, none⟩)) (.pointer none) := rfl
      rw [this, Op.equalIn]; simp only [Sem.run_bind, run_underlying ht w, Result.andThen_ok]; rfl
    have e2 : eqGuard .neq t x y (.pointer (some ⟨e.id n, e.bs n + o, none⟩)) (.pointer none) = pure () := rfl
    rw [e2]; simp only [Sem.run_bind, Sem.run_pure, Result.andThen_ok, binOp, e1]; rfl
  | @nilEq x y t ty Y b ks hn hy =>
    obtain ⟨h1, h2, h3⟩ := hn.sound (fun q hq => hag q (List.mem_append.2 (.inl hq))) hR
    refine ⟨_, run_bin rfl (ev1v hy hag (fun q h => by simp [h]) hR) ?_, Ok.of, fun n hn => by cases hn⟩
    rw [h3]; simp only [Sem.run_bind, Sem.run_pure, Result.andThen_ok, h1]
  | @nilNe x y t ty Y b ks hn hy =>
    obtain ⟨h1, h2, h3⟩ := hn.sound (fun q hq => hag q (List.mem_append.2 (.inl hq))) hR
    refine ⟨_, run_bin rfl (ev1v hy hag (fun q h => by simp [h]) hR) ?_, Ok.of, fun n hn => by cases hn⟩
    rw [h3]; simp only [Sem.run_bind, Sem.run_pure, Result.andThen_ok, h2]
  | @conv x k k' n d src dst hx h1 h2 =>
    refine ⟨_, ?_, Ok.of, fun n hn => by cases hn⟩
    have e1 : (underlying src).run c.P w = .ok d w := run_underlying h1 w
    have e2 : (underlying dst).run c.P w = .ok (.int k') w := run_underlying h2 w
    simp only [execOp, ev1v hx hag (fun q h => h) hR]
    simp [Go.convert, e1, e2, Conv.intToInt]
  | @convS x b d src dst hx h1 h2 =>
    refine ⟨_, ?_, Ok.of, fun n hn => by cases hn⟩
    have e1 : (underlying src).run c.P w = .ok d w := run_underlying h1 w
    have e2 : (underlying dst).run c.P w = .ok .string w := run_underlying h2 w
    simp only [execOp, ev1v hx hag (fun q h => h) hR, Go.convert, Sem.run_bind, e1, e2, Result.andThen_ok]
    cases d <;> rfl
  | @lenS x n o len cap t el hx hl ht =>
    have ex := ev1r hx hag (fun q h => by simp [h]) hR rfl hl (by simp)
    refine ⟨.int .i64 len, ?_, Ok.of, fun n hn => by cases hn⟩
    rcases ex with ex | ⟨rfl, rfl, p, ex⟩
    · simp [execOp, resolve, invoke, builtin, ex, Builtin.len_, run_underlying ht, goInt]
    · simp [execOp, resolve, invoke, builtin, ex, Builtin.len_, run_underlying ht, goInt]
  | @lenG x n o len lb z t el hx hl ht =>
    have ex := ev1r hx hag (fun q h => by simp [h]) hR rfl hl (by simp)
    refine ⟨.int .i64 len, ?_, Ok.of, fun n hn => by cases hn⟩
    rcases ex with ⟨k, ex, _⟩ | ⟨rfl, rfl, p, ex⟩
    · simp [execOp, resolve, invoke, builtin, ex, Builtin.len_, run_underlying ht, goInt]
    · simp [execOp, resolve, invoke, builtin, ex, Builtin.len_, run_underlying ht, goInt]
  | @lenT x b t hx ht =>
    exact ⟨.int .i64 b.data.size, by simp [execOp, resolve, invoke, builtin, ev1v hx hag (fun q h => h) hR, Builtin.len_, run_underlying ht, goInt], Ok.of, fun n hn => by cases hn⟩
  | @lenN x n cap p t el hx ht =>
    exact ⟨.int .i64 n, by simp [execOp, resolve, invoke, builtin, ev1v hx hag (fun q h => h) hR, Builtin.len_, run_underlying ht, goInt], Ok.of, fun n hn => by cases hn⟩
  | @capS x n o len cap t el hx hl ht =>
    have ex := ev1r hx hag (fun q h => by simp [h]) hR rfl hl (by simp)
    refine ⟨.int .i64 cap, ?_, Ok.of, fun n hn => by cases hn⟩
    rcases ex with ex | ⟨rfl, rfl, p, ex⟩
    · simp [execOp, resolve, invoke, builtin, ex, Builtin.cap_, run_underlying ht, goInt]
    · simp [execOp, resolve, invoke, builtin, ex, Builtin.cap_, run_underlying ht, goInt]
  | @mins xs L ks Z ty hv hz =>
    obtain ⟨x, r, rfl, hr⟩ := minL_ok (w := w) (P := c.P) hz
    have hm := hv.agree hag hR
    refine ⟨Z, ?_, Ok.of, fun n hn => by cases hn⟩
    simp only [execOp, resolve, Sem.run_bind, Sem.run_pure, Result.andThen_ok, invoke, builtin, List.map_toArray, hm, Builtin.min_, hr]
  | @maxs xs L ks Z ty hv hz =>
    obtain ⟨x, r, rfl, hr⟩ := maxL_ok (w := w) (P := c.P) hz
    have hm := hv.agree hag hR
    refine ⟨Z, ?_, Ok.of, fun n hn => by cases hn⟩
    simp only [execOp, resolve, Sem.run_bind, Sem.run_pure, Result.andThen_ok, invoke, builtin, List.map_toArray, hm, Builtin.max_, hr]
  | @run op xs L ks Z hv hr =>
    exact ⟨Z, hr a.eval _ w rfl (hv.agree hag hR), Ok.of, fun n hn => by cases hn⟩
end
end Go.Proofs.Ytnmkpekfkfckoaa.EV
namespace Go.Proofs.Ytnmkpekfkfckoaa.EV
open Go.RowKit
def put0 {α : Type} : List α → List α → List α
  | [], l => l
  | x :: xs, _ :: l => x :: put0 xs l
  | _ :: _, [] => []
def putL {α : Type} : Nat → List α → List α → List α
  | 0, vs, l => put0 vs l
  | o + 1, vs, y :: l => y :: putL o vs l
  | _ + 1, _, [] => []
theorem put0_length {α : Type} : ∀ (vs l : List α), (put0 vs l).length = l.length
  | [], _ => rfl
  | x :: xs, y :: l => by simp [put0, put0_length xs l]
  | _ :: _, [] => rfl
theorem putL_length {α : Type} : ∀ (o : Nat) (vs l : List α), (putL o vs l).length = l.length
  | 0, vs, l => put0_length vs l
  | o + 1, xs, y :: l => by simp [putL, putL_length o xs l]
  | _ + 1, _, [] => rfl
theorem put0_get {α : Type} : ∀ (vs l : List α) (i : Nat), vs.length ≤ l.length → (put0 vs l)[i]? = if i < vs.length then vs[i]? else l[i]?
  | [], l, i, _ => by simp [put0]
  | x :: xs, [], i, h => by simp at h
  | x :: xs, y :: l, 0, _ => by simp [put0]
  | x :: xs, y :: l, i + 1, h => by
    have := put0_get xs l i (by simp at h ⊢; omega)
    simp only [put0, List.getElem?_cons_succ, this, List.length_cons]
    by_cases hi : i < xs.length
    · rw [if_pos hi, if_pos (by omega)]
    · rw [if_neg hi, if_neg (by omega)]
theorem putL_get {α : Type} : ∀ (o : Nat) (vs l : List α) (i : Nat), o + vs.length ≤ l.length → (putL o vs l)[i]? = if o ≤ i ∧ i < o + vs.length then vs[i - o]? else l[i]?
  | 0, vs, l, i, h => by
    have := put0_get vs l i (by omega)
    simp only [putL, this, Nat.zero_le, true_and, Nat.zero_add, Nat.sub_zero]
  | o + 1, xs, [], i, h => by simp at h
  | o + 1, xs, y :: l, 0, h => by simp [putL]
  | o + 1, xs, y :: l, i + 1, h => by
    have := putL_get o xs l i (by simp at h; omega)
    simp only [putL, List.getElem?_cons_succ, this]
    by_cases hi : o ≤ i ∧ i < o + xs.length
    · rw [if_pos hi, if_pos (by omega), show i + 1 - (o + 1) = i - o by omega]
    · rw [if_neg hi, if_neg (by omega)]
theorem put0_map {α β : Type} (f : α → β) : ∀ (vs l : List α), (put0 vs l).map f = put0 (vs.map f) (l.map f)
  | [], l => rfl
  | x :: xs, y :: l => by simp [put0, put0_map f xs l]
  | _ :: _, [] => rfl
theorem putL_map {α β : Type} (f : α → β) : ∀ (o : Nat) (vs l : List α), (putL o vs l).map f = putL o (vs.map f) (l.map f)
  | 0, vs, l => put0_map f vs l
  | o + 1, xs, y :: l => by simp [putL, putL_map f o xs l]
  | _ + 1, _, [] => rfl
theorem put0_mem {α : Type} : ∀ (vs l : List α) (x : α), x ∈ put0 vs l → x ∈ vs ∨ x ∈ l
  | [], l, x, h => .inr h
  | v :: xs, y :: l, x, h => by
    simp only [put0, List.mem_cons] at h ⊢
    rcases h with h | h
    · exact .inl (.inl h)
    · rcases put0_mem xs l x h with h | h
      · exact .inl (.inr h)
      · exact .inr (.inr h)
  | _ :: _, [], x, h => by cases h
theorem putL_mem {α : Type} : ∀ (o : Nat) (vs l : List α) (x : α), x ∈ putL o vs l → x ∈ vs ∨ x ∈ l
  | 0, vs, l, x, h => put0_mem vs l x h
  | o + 1, xs, y :: l, x, h => by
    simp only [putL, List.mem_cons] at h ⊢
    rcases h with h | h
    · exact .inr (.inl h)
    · rcases putL_mem o xs l x h with h | h
      · exact .inl h
      · exact .inr (.inr h)
  | _ + 1, _, [], x, h => by cases h
theorem setCells_spec (b : Nat) : ∀ (vs : List Value) (o : Nat) (w : World) (cs : Array Value) (ty : TypeId) (fz : Nat × Nat), w.heap[b]? = some (.cells cs ty fz) →
    ∃ cs' : Array Value, (w.setCells b o vs).heap[b]? = some (.cells cs' ty fz) ∧ cs'.size = cs.size ∧ ∀ i, cs'[i]? = if o ≤ i ∧ i < o + vs.length ∧ i < cs.size then vs[i - o]? else cs[i]?
  | [], o, w, cs, ty, fz, h => ⟨cs, h, rfl, fun i => by rw [if_neg (by simp; omega)]⟩
  | v :: vs, o, w, cs, ty, fz, h => by
    rw [World.setCells]
    obtain ⟨cs', h1, h2, h3⟩ := setCells_spec b vs (o + 1) (w.setCell ⟨b, o, none⟩ v) (cs.setIfInBounds o v) ty fz (by simp [World.setCell, Array.getElem?_modify, h])
    refine ⟨cs', h1, by simpa using h2, fun i => ?_⟩
    rw [h3]
    simp only [Array.size_setIfInBounds, List.length_cons]
    by_cases hi : o + 1 ≤ i ∧ i < o + 1 + vs.length ∧ i < cs.size
    · rw [if_pos hi, if_pos (by omega), show i - o = i - (o + 1) + 1 by omega]; simp
    · rw [if_neg hi, Array.getElem?_setIfInBounds]
      by_cases he : o = i
      · subst he
        rw [if_pos rfl]
        by_cases hl : o < cs.size
        · rw [if_pos hl, if_pos (by omega)]; simp
        · rw [if_neg hl, if_neg (by omega)]; simp [hl]
      · rw [if_neg he, if_neg (by omega)]
theorem setCells_other (b : Nat) (vs : List Value) (o : Nat) (w : World) (k : Nat) (h : k ≠ b) : (w.setCells b o vs).heap[k]? = w.heap[k]? := by
  by_cases hk : k < w.heap.size
  · exact (setCells_grown b vs o w).block k hk (by simpa using h)
  · have hs : ∀ (vs : List Value) (o : Nat) (w : World), (w.setCells b o vs).heap.size = w.heap.size := by
      intro vs
      induction vs with
      | nil => intro o w; rfl
      | cons v r ih => intro o w; rw [World.setCells, ih]; simp [World.setCell]
    rw [Array.getElem?_eq_none (by rw [hs]; omega), Array.getElem?_eq_none (by omega)]
/-- The cells of what is laid down. -/
inductive CV (s : Sf) : V → List C → List Key → Prop
  | v {X : Value} : X.oneCell' = true → CV s (.c (.v X)) [.v X] []
  | n {x : C} {n : Nat} : x.names = [n] → s (.l n) = some (.l true) → CV s (.c x) [x] [.l n]
  | f {g : FuncId} {ca : List (Nat × Nat)} {ks : List Key} : (∀ q ∈ ca, s (.l q.1) = some (.l true) ∧ Key.l q.1 ∈ ks) → CV s (.c (.f g ca)) [.f g ca] ks
  | a {l : List C} : CV s (.a l) l []
section
variable {c : Ctx} {F : Fence} {nn : Nat} {σ s : Sf} {e : Env} {a : Act} {w : World}
theorem cells_one {u : Value} (h : u.oneCell' = true) : u.cells.toList = [u] := by
  cases u <;> first | rfl | cases h
theorem Rep.one {x : C} {u : Value} (h : Rep e x u) (hx : ∀ X, x ≠ .v X) : u.oneCell' = true := by
  cases x with
  | v X => exact absurd rfl (hx X)
  | p n o => simp only [Rep] at h; rw [h]; rfl
  | s n o l k => rcases h with h | ⟨_, _, p, h⟩ <;> rw [h] <;> rfl
  | g n o l b z => rcases h with ⟨k, h, _⟩ | ⟨_, _, p, h⟩ <;> rw [h] <;> rfl
  | f g ca => simp only [Rep] at h; rw [h]; rfl
  | y n => simp only [Rep] at h; rw [h]; rfl
theorem CV.sound {v : V} {l : List C} {ks : List Key} (h : CV σ v l ks) (hag : ∀ q ∈ ks, s q = σ q) {u : Value} (hu : OkV s e v u) : ∃ us, u.cells.toList = us ∧ OkL s e l us := by
  cases h with
  | v hX =>
    have := Ok.plain hu; subst this
    exact ⟨_, cells_one hX, _, [], rfl, ⟨hX, fun _ => rfl⟩, rfl⟩
  | @n x n hx hl =>
    have hr : Rep e x u := hu fun m hm => by
      rw [hx] at hm; simp at hm; subst hm
      unfold live; rw [hag _ (by simp)]; exact hl
    have h1 := hr.one (fun X hX => by subst hX; cases hx)
    exact ⟨_, cells_one h1, u, [], rfl, ⟨h1, fun _ => hr⟩, rfl⟩
  | @f g ca ks hl =>
    have hr : Rep e (.f g ca) u := hu fun m hm => by
      simp only [C.names, List.mem_map] at hm
      obtain ⟨q, hq, rfl⟩ := hm
      unfold live; rw [hag _ (hl q hq).2]; exact (hl q hq).1
    have h1 := hr.one (fun X hX => by cases hX)
    exact ⟨_, cells_one h1, u, [], rfl, ⟨h1, fun _ => hr⟩, rfl⟩
  | a =>
    obtain ⟨us, hu, h1⟩ := hu
    exact ⟨us, by rw [hu]; rfl, h1⟩
theorem CV.names {v : V} {l : List C} {ks : List Key} (h : CV σ v l ks) {n : Nat} (hn : n ∈ l.flatMap C.names) : n ∈ v.names := by
  cases h with
  | v hX => simp [C.names] at hn
  | n hx hl => simpa [V.names] using hn
  | f hl => simpa [V.names] using hn
  | a => exact hn
theorem OkL.all_one : ∀ {l : List C} {us : List Value}, OkL s e l us → ∀ u ∈ us, u.oneCell' = true
  | [], _, h, u, hu => by rw [h] at hu; cases hu
  | x :: l, _, ⟨u, r, he, h1, h2⟩, u', hu' => by
    rw [he] at hu'
    simp only [List.mem_cons] at hu'
    rcases hu' with rfl | hu'
    · exact h1.one
    · exact h2.all_one u' hu'
/-- A new row of cells, all known. -/
theorem MOk.made {n : Nat} {own : Bool} {l : List C} {us : List Value} {i b r : Nat} {ty : TypeId} (h : OkL s e l us) (hid : e.id n = w.heap.size) (hbs : e.bs n = 0) (hrm : e.rm n = us.length) : MOk s e (w.alloc (.cells us.toArray ty)) n own l := by
  refine ⟨by rw [hrm, h.length]; exact Nat.le_refl _, .inr ⟨us.toArray, ty, (0, 0), by rw [hid]; exact World.alloc_heap_new w _, fun _ => .inl rfl, by rw [hbs, hrm]; simp, fun i x hx => ?_⟩⟩
  rw [hbs]
  obtain ⟨u, h1, h2⟩ := h.get hx
  exact ⟨u, by simpa using h1, h2⟩
theorem Real.row (h : Real c s e a w) {n : Nat} (hm : ¬ c.gv n) (hn : s (.l n) = none) {l : List C} {us : List Value} (hl : OkL s e l us) (hnm : ∀ k ∈ l.flatMap C.names, s (.l k) ≠ none) (ty : TypeId) :
    Real c (upd s (wsNew n (.m true l))) (e.set n w.heap.size 0 us.length) a (w.alloc (.cells us.toArray ty)) :=
  h.new hm hn _ _ (MOk.made (i := 0) (b := 0) (r := 0) (hl.mono fun k hk => ⟨(wsNew_live (not_live hn (hnm k hk))).1, (Env.set_ne e (not_live hn (hnm k hk))).symm⟩) (Env.set_id ..) (Env.set_bs ..) (Env.set_rm ..)) (fun k hk => .inr (hnm k hk))
theorem Real.rowW (h : Real c s e a w) {n : Nat} (hm : ¬ c.gv n) (hn : s (.l n) = none) {us : List Value} (h1 : us.all (·.oneCell') = true) (ty : TypeId) :
    Real c (upd s (wsNew n (.w true us))) (e.set n w.heap.size 0 us.length) a (w.alloc (.cells us.toArray ty)) :=
  h.new hm hn _ _ (MOk.made (i := 0) (b := 0) (r := 0) (OkL.plain us h1) (Env.set_id ..) (Env.set_bs ..) (Env.set_rm ..)) (fun k hk => by cases hk)
theorem run_newVar {P : Program} {w : World} {t : TypeId} {v : Value} : (newVar t v).run P w = .ok ⟨w.heap.size, 0, none⟩ (w.alloc (.cells v.cells t)) := rfl
def zeroC (P : Program) (t : TypeId) : Option (List Value) := match P.info? t with
  | some i => match i.zero with
    | some z => if z.cells.toList.all (·.oneCell') = true then some z.cells.toList else none
    | none => none
  | none => none
theorem run_zero {P : Program} {t : TypeId} {zs : List Value} (h : zeroC P t = some zs) : ∃ z, (zeroValue t).run P w = .ok z w ∧ z.cells = zs.toArray ∧ zs.all (·.oneCell') = true := by
  unfold zeroC at h
  cases hi : P.info? t with
  | none => rw [hi] at h; cases h
  | some i =>
    rw [hi] at h
    simp only at h
    cases hz : i.zero with
    | none => rw [hz] at h; cases h
    | some z =>
      rw [hz] at h
      simp only at h
      split at h
      · rename_i h1
        cases h
        exact ⟨z, by simp [zeroValue, typeInfo, hi, hz], by simp, h1⟩
      · cases h
theorem new_alive {n : Nat} {b : B} : upd s (wsNew n b) (.l n) ≠ none := by rw [wsNew_l, if_pos rfl]; simp
theorem LocalO.alloc (hF : WideLike F) {n : Nat} {t : TypeId} {zs : List Value} {d : Option Tmp} {rt : TypeId} {pos : String} {af : Array Edge} {g : Option (Nat × Bool)} (hN : dOk c.N d = true) (hz : zeroC c.P t = some zs) (hm : ¬ c.gv n) (hn : σ (.l n) = none) :
    LocalO c F nn ⟨d, .alloc t, rt, pos, af, g⟩ σ ⟨kr [.l n], putW d (.c (.p n 0)) ++ wsNew n (.m true (zs.map C.v))⟩ := by
  refine LocalO.act hF hN (noDefer rfl) fun s e a w hag hR => ?_
  obtain ⟨z, h1, h2, h3⟩ := run_zero (w := w) hz
  have hn' : s (.l n) = none := by rw [hag _ (kr_iff.2 (by simp))]; exact hn
  refine ⟨.pointer (some ⟨w.heap.size, 0, none⟩), _, _, ?_, hR.row hm hn' (OkL.plain zs h3) (fun k hk => by rw [plain_names] at hk; cases hk) t, fun _ => ?_, fun k hk => ?_⟩
  · simp only [execOp, Instr.alloc, Sem.run_bind, h1, Result.andThen_ok, run_newVar, h2, Sem.run_pure]
  · simp [Rep, Env.set_id, Env.set_bs]
  · simp [V.names, C.names] at hk; subst hk; exact new_alive
theorem LocalO.box (hF : WideLike F) {n : Nat} {t : TypeId} {x : Operand} {v : V} {l : List C} {ks : List Key} {d : Option Tmp} {rt : TypeId} {pos : String} {af : Array Edge} {g : Option (Nat × Bool)} (hN : dOk c.N d = true) (hx : opv σ x = some v) (hl : CV σ v l ks) (hm : ¬ c.gv n) (hn : σ (.l n) = none) :
    LocalO c F nn ⟨d, .box t x, rt, pos, af, g⟩ σ ⟨kr (.l n :: (ks ++ opk x)), putW d (.c (.p n 0)) ++ wsNew n (.m true l)⟩ := by
  refine LocalO.act hF hN (noDefer rfl) fun s e a w hag hR => ?_
  have hag' : ∀ q ∈ Key.l n :: (ks ++ opk x), s q = σ q := fun q hq => hag q (kr_iff.2 hq)
  have hn' : s (.l n) = none := by rw [hag' _ (by simp)]; exact hn
  obtain ⟨h1, h2⟩ := ev1 hx hag' (fun q h => by simp [h]) hR
  obtain ⟨us, h3, h4⟩ := hl.sound (fun q hq => hag' q (by simp [hq])) h1
  refine ⟨.pointer (some ⟨w.heap.size, 0, none⟩), _, _, ?_, hR.row hm hn' h4 (fun k hk => h2 k (hl.names hk)) t, fun _ => ?_, fun k hk => ?_⟩
  · have e1 : (a.eval x).cells = us.toArray := by rw [← h3]
    simp only [execOp, Instr.box, Sem.run_bind, run_newVar, Result.andThen_ok, e1, Sem.run_pure]
  · simp [Rep, Env.set_id, Env.set_bs]
  · simp [V.names, C.names] at hk; subst hk; exact new_alive
theorem MOk.range {n : Nat} {own : Bool} {l : List C} (h : MOk s e w n own l) (o k : Nat) (hk : o + k ≤ l.length) : ∃ us : List Value, us.length = k ∧ OkL s e ((l.drop o).take k) us ∧ w.rangeAt (e.id n) (e.bs n + o) us := by
  obtain ⟨h1, h2⟩ := h
  by_cases hk0 : k = 0
  · subst hk0
    exact ⟨[], rfl, by simp [OkL], fun j v hv => by simp at hv⟩
  rcases h2 with h2 | ⟨cs, ty, fz, h3, h4, h5, h6⟩
  · omega
  · refine ⟨((cs.toList.drop (e.bs n + o)).take k), by simp; omega, OkL.mk (by simp; omega) fun i x hx => ?_, fun j v hv => ?_⟩
    · rw [List.getElem?_take] at hx ⊢
      split at hx
      · rename_i hi
        rw [if_pos hi]
        rw [List.getElem?_drop] at hx ⊢
        obtain ⟨u, h7, h8⟩ := h6 (o + i) x hx
        exact ⟨u, by rw [← h7, Nat.add_assoc]; simp, h8⟩
      · cases hx
    · rw [List.getElem?_take] at hv
      split at hv
      · rw [List.getElem?_drop] at hv
        simp only [World.cell?, h3]
        simpa using hv
      · cases hv
theorem MOk.cell {n : Nat} {own : Bool} {l : List C} {o : Nat} {x : C} (h : MOk s e w n own l) (hx : l[o]? = some x) : ∃ u, w.cell? ⟨e.id n, e.bs n + o, none⟩ = some u ∧ Okc s e x u := by
  obtain ⟨h1, h2⟩ := h
  have hl : o < l.length := (List.getElem?_eq_some_iff.1 hx).1
  rcases h2 with h2 | ⟨cs, ty, fz, h3, h4, h5, h6⟩
  · omega
  · obtain ⟨u, h7, h8⟩ := h6 o x hx
    exact ⟨u, by simpa [World.cell?, h3] using h7, h8⟩
/-- A block's cells, whichever way they are told. -/
def B.cellsC : B → Option (Bool × List C)
  | .m o l => some (o, l)
  | .w o l => some (o, l.map C.v)
  | _ => none
theorem RealW.cells (h : RealW c s e w) {n : Nat} {b : B} {own : Bool} {l : List C} (ha : s (.l n) = some (.l true)) (hb : s (.b n) = some (.b b)) (hl : b.cellsC = some (own, l)) : MOk s e w n own l := by
  have := h.blk n b ha hb
  cases b with
  | m o l' => cases hl; exact this
  | w o l' => cases hl; exact this
  | _ => cases hl
theorem B.cellsC_names {b : B} {own : Bool} {l : List C} (hl : b.cellsC = some (own, l)) : l.flatMap C.names = b.names := by
  cases b with
  | m o l' => cases hl; rfl
  | w o l' => cases hl; exact plain_names _
  | _ => cases hl
theorem LocalO.load1 (hF : WideLike F) {n o : Nat} {t : TypeId} {x : Operand} {b : B} {own : Bool} {l : List C} {z : C} {d : Option Tmp} {rt : TypeId} {pos : String} {af : Array Edge} {g : Option (Nat × Bool)} (hN : dOk c.N d = true) (hx : opv σ x = some (.c (.p n o))) (ha : σ (.l n) = some (.l true)) (hb : σ (.b n) = some (.b b)) (hl : b.cellsC = some (own, l))
    (ht : tRow c.P t = some false) (hz : l[o]? = some z) : LocalO c F nn ⟨d, .load t x, rt, pos, af, g⟩ σ ⟨kr (.l n :: .b n :: opk x), putW d (.c z)⟩ := by
  refine LocalO.val hF hN (noDefer rfl) fun s e a w hag hR => ?_
  have hag' : ∀ q ∈ Key.l n :: .b n :: opk x, s q = σ q := fun q hq => hag q (kr_iff.2 hq)
  have ex := ev1r hx hag' (fun q h => by simp [h]) hR rfl ha (by simp)
  simp only [Rep] at ex
  have hM := hR.W.cells (n := n) (by rw [hag' _ (by simp)]; exact ha) (by rw [hag' _ (by simp)]; exact hb) hl
  obtain ⟨u, h1, h2⟩ := hM.cell hz
  refine ⟨u, ?_, h2.ok, fun m hm => hR.W.cl.1 (.b n) (.b b) (by rw [hag' _ (by simp)]; exact hb) m ?_⟩
  · simp only [execOp, ex, Instr.loadAt, Instr.sureAddr, Sem.run_bind, Sem.run_pure, Result.andThen_ok, loadVar, run_row ht]
    simp [run_load, h1]
  · show m ∈ b.names
    rw [← B.cellsC_names hl]
    exact List.mem_flatMap.2 ⟨z, List.mem_of_getElem? hz, hm⟩
theorem LocalO.loadA (hF : WideLike F) {n o k : Nat} {t : TypeId} {x : Operand} {b : B} {own : Bool} {l : List C} {d : Option Tmp} {rt : TypeId} {pos : String} {af : Array Edge} {g : Option (Nat × Bool)} (hN : dOk c.N d = true) (hx : opv σ x = some (.c (.p n o))) (ha : σ (.l n) = some (.l true)) (hb : σ (.b n) = some (.b b)) (hl : b.cellsC = some (own, l))
    (ht : tRow c.P t = some true) (hk : tS c.P t = some k) (hle : o + k ≤ l.length) : LocalO c F nn ⟨d, .load t x, rt, pos, af, g⟩ σ ⟨kr (.l n :: .b n :: opk x), putW d (.a ((l.drop o).take k))⟩ := by
  refine LocalO.val hF hN (noDefer rfl) fun s e a w hag hR => ?_
  have hag' : ∀ q ∈ Key.l n :: .b n :: opk x, s q = σ q := fun q hq => hag q (kr_iff.2 hq)
  have ex := ev1r hx hag' (fun q h => by simp [h]) hR rfl ha (by simp)
  simp only [Rep] at ex
  have hM := hR.W.cells (n := n) (by rw [hag' _ (by simp)]; exact ha) (by rw [hag' _ (by simp)]; exact hb) hl
  obtain ⟨us, h1, h2, h3⟩ := hM.range o k hle
  refine ⟨.agg us.toArray, ?_, ⟨us, rfl, h2⟩, fun m hm => hR.W.cl.1 (.b n) (.b b) (by rw [hag' _ (by simp)]; exact hb) m ?_⟩
  · have hl' : (loadCells ⟨e.id n, e.bs n + o, none⟩ us.length).run c.P w = .ok us.toArray w :=
      run_loadCells_list (P := c.P) w ⟨e.id n, e.bs n + o, none⟩ us (fun j v hv => by rw [Addr.add_mid]; exact h3 j v hv)
    simp only [execOp, ex, Instr.loadAt, Instr.sureAddr, Sem.run_bind, Sem.run_pure, Result.andThen_ok, loadVar, run_row ht, if_true, run_sz hk, ← h1, hl']
  · show m ∈ b.names
    rw [← B.cellsC_names hl]
    simp only [V.names, List.mem_flatMap] at hm ⊢
    obtain ⟨y, hy, hm⟩ := hm
    exact ⟨y, List.mem_of_mem_drop (List.mem_of_mem_take hy), hm⟩
theorem MOk.put {n o : Nat} {l vs : List C} {us : List Value} (h : MOk s e w n true l) (hv : OkL s e vs us) (hle : o + vs.length ≤ l.length) (h0 : vs ≠ []) :
    e.rm n ≠ 0 ∧ (∀ j, j < us.length → (w.cell? ⟨e.id n, e.bs n + o + j, none⟩).isSome = true ∧ w.frozen? ⟨e.id n, e.bs n + o + j, none⟩ = false) ∧ MOk s e (w.setCells (e.id n) (e.bs n + o) us) n true (putL o vs l) := by
  obtain ⟨h1, h2⟩ := h
  have hlen := hv.length
  have h00 : 0 < vs.length := by cases vs with
    | nil => exact absurd rfl h0
    | cons _ _ => simp
  rcases h2 with h2 | ⟨cs, ty, fz, h3, h4, h5, h6⟩
  · omega
  · obtain ⟨cs', g1, g2, g3⟩ := setCells_spec (e.id n) us (e.bs n + o) w cs ty fz h3
    refine ⟨by omega, fun j hj => ⟨?_, ?_⟩, by rw [putL_length]; exact h1, .inr ⟨cs', ty, fz, g1, h4, by rw [g2]; exact h5, fun i x hx => ?_⟩⟩
    · simp [World.cell?, h3]; omega
    · have := unfroz (h4 rfl) (i := o + j) (by omega)
      simp only [World.frozen?, h3]
      rw [← Bool.not_eq_true]
      intro hb
      simp only [Bool.and_eq_true, decide_eq_true_eq] at hb
      exact this ⟨by omega, by omega⟩
    · rw [putL_get o vs l i hle] at hx
      rw [g3]
      split at hx
      · rename_i hi
        have hil : i - o < vs.length := by omega
        rw [if_pos (by omega), show e.bs n + i - (e.bs n + o) = i - o by omega]
        exact hv.get hx
      · rename_i hi
        rw [if_neg (by omega)]
        exact h6 i x hx
theorem run_store {P : Program} {t : TypeId} {b o : Nat} {u : Value} {us : List Value} (hu : u.cells.toList = us) (hk : tS P t = some us.length) (h1 : ∀ v ∈ us, v.oneCell' = true) (hth : ∀ j, j < us.length → (w.cell? ⟨b, o + j, none⟩).isSome = true ∧ w.frozen? ⟨b, o + j, none⟩ = false) :
    (storeVar t ⟨b, o, none⟩ u).run P w = .ok () (w.setCells b o us) := by
  have hc := run_storeCells_cells (P := P) b o us 0 w (fun j hj => by simpa using (hth j hj).1) (fun j hj => by simpa using (hth j hj).2) h1
  have hs : u.cells.size = us.length := by rw [← hu]; simp
  simp only [storeVar, Sem.run_bind, run_sz hk, Result.andThen_ok, hs]
  simp [hu, hc]
theorem Real.store (h : Real c s e a w) {n o : Nat} {b : B} {l vs : List C} {us : List Value} (ha : s (.l n) = some (.l true)) (hb : s (.b n) = some (.b b)) (hl : b.cellsC = some (true, l)) (hv : OkL s e vs us) (hle : o + vs.length ≤ l.length) (h0 : vs ≠ []) (hnm : ∀ k ∈ vs.flatMap C.names, s (.l k) ≠ none)
    {b' : B} (hb' : b'.cellsC = some (true, putL o vs l)) :
    (∀ j, j < us.length → (w.cell? ⟨e.id n, e.bs n + o + j, none⟩).isSome = true ∧ w.frozen? ⟨e.id n, e.bs n + o + j, none⟩ = false) ∧ Real c (upd s [(.b n, .b b')]) e a (w.setCells (e.id n) (e.bs n + o) us) := by
  have hM := h.W.cells ha hb hl
  obtain ⟨g1, g2, g3⟩ := hM.put hv hle h0
  have hg := setCells_grown (e.id n) us (e.bs n + o) w
  have ho : b.own = true := by cases b with
    | m _ _ => cases hl; rfl
    | w _ _ => cases hl; rfl
    | _ => cases hl
  refine ⟨g2, h.chg ha hb (fun e => by subst e; cases hl) ho g1 (fun k hk => setCells_other _ _ _ _ k hk) hg.size hg.os hg.tape hg.output ?_ ?_⟩
  · have hl' : ∀ k, upd s [(.b n, .b b')] (.l k) = s (.l k) := fun k => by rw [upd_cons_ne _ _ _ (by simp), upd_nil]
    have g4 : MOk (upd s [(.b n, .b b')]) e (w.setCells (e.id n) (e.bs n + o) us) n true (putL o vs l) :=
      g3.mono (fun m _ => ⟨fun hx => by unfold live at *; rw [← hl']; exact hx, .rfl⟩) .rfl (fun _ => rfl)
    cases b' with
    | m _ _ => cases hb'; exact g4
    | w _ _ => simp only [B.cellsC, Option.some.injEq, Prod.mk.injEq] at hb'; obtain ⟨rfl, hb'⟩ := hb'; show MOk _ _ _ _ _ _; rw [hb']; exact g4
    | _ => cases hb'
  · intro k hk
    rw [← B.cellsC_names hb'] at hk
    simp only [List.mem_flatMap] at hk
    obtain ⟨x, hx, hk⟩ := hk
    rcases putL_mem o vs l x hx with hx | hx
    · exact hnm k (List.mem_flatMap.2 ⟨x, hx, hk⟩)
    · refine h.W.cl.1 (.b n) (.b b) hb k ?_
      show k ∈ b.names
      rw [← B.cellsC_names hl]
      exact List.mem_flatMap.2 ⟨x, hx, hk⟩
theorem LocalO.store (hF : WideLike F) {n o : Nat} {t : TypeId} {x y : Operand} {v : V} {b b' : B} {l vs : List C} {ks : List Key} {rt : TypeId} {pos : String} {af : Array Edge} {g : Option (Nat × Bool)} (hx : opv σ x = some (.c (.p n o))) (ha : σ (.l n) = some (.l true)) (hb : σ (.b n) = some (.b b)) (hl : b.cellsC = some (true, l))
    (hy : opv σ y = some v) (hv : CV σ v vs ks) (hk : tS c.P t = some vs.length) (hle : o + vs.length ≤ l.length) (h0 : vs ≠ []) (hb' : b'.cellsC = some (true, putL o vs l)) :
    LocalO c F nn ⟨none, .store t x y, rt, pos, af, g⟩ σ ⟨kr (.l n :: .b n :: (ks ++ (opk x ++ opk y))), [(.b n, .b b')]⟩ := by
  refine LocalO.deed hF rfl (noDefer rfl) fun s e a w hag hR => ?_
  have hag' : ∀ q ∈ Key.l n :: .b n :: (ks ++ (opk x ++ opk y)), s q = σ q := fun q hq => hag q (kr_iff.2 hq)
  have ex := ev1r hx hag' (fun q h => by simp [h]) hR rfl ha (by simp)
  simp only [Rep] at ex
  obtain ⟨h1, h2⟩ := ev1 hy hag' (fun q h => by simp [h]) hR
  obtain ⟨us, h3, h4⟩ := hv.sound (fun q hq => hag' q (by simp [hq])) h1
  obtain ⟨h5, h6⟩ := hR.store (n := n) (by rw [hag' _ (by simp)]; exact ha) (by rw [hag' _ (by simp)]; exact hb) hl h4 hle h0 (fun k hk => h2 k (hv.names hk)) hb'
  refine ⟨_, e, ?_, h6⟩
  have hst := run_store (P := c.P) h3 (by rw [h4.length]; exact hk) (fun v hv => h4.all_one v hv) h5
  simp only [execOp, ex, Instr.storeAt, Instr.sureAddr, Sem.run_bind, Sem.run_pure, Result.andThen_ok, hst]
end
end Go.Proofs.Ytnmkpekfkfckoaa.EV
