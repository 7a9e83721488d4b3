/- Structs and arrays of numbers are compared number by number. No program in sight. -/
import Derived.Test.YtbjogekhedglgaaLib
import Derived.ChangeKeysEq
namespace Go.Proofs.Ytbjogekhedglgaa.SX
open Go.RowKit

inductive FK where
  | i (k : IntKind)
  | b
  deriving DecidableEq
def flatF (P : Program) (go : TypeId → Option (List FK)) : List Field → Nat → Option (List FK)
  | [], _ => some []
  | f :: fs, o => match go f.type, flatF P go fs (o + P.cellsOf f.type) with
    | some l, some r => if f.offset = o ∧ l.length = P.cellsOf f.type ∧ 0 < l.length then some (l ++ r) else none
    | _, _ => none
/-- The cells of a type that holds numbers and truths alone. -/
def flatK (P : Program) : Nat → TypeId → Option (List FK)
  | 0, _ => none
  | n + 1, t => match P.underlying t with
    | some (.int k) => some [.i k]
    | some .bool => some [.b]
    | some (.struct fs) => match flatF P (flatK P n) fs.toList 0 with
      | some l => if l.length = P.cellsOf t then some l else none
      | none => none
    | some (.array m e) => match flatK P n e with
      | some l => if l.length = P.cellsOf e ∧ m * l.length = P.cellsOf t ∧ 0 < l.length then some (List.replicate m l).flatten else none
      | none => none
    | _ => none
/-- Cells of those kinds. -/
def fitB : List FK → List Value → Bool
  | [], [] => true
  | .i k :: ks, .int k' _ :: vs => (match k, k' with | .i8, .i8 | .i16, .i16 | .i32, .i32 | .i64, .i64 | .u8, .u8 | .u16, .u16 | .u32, .u32 | .u64, .u64 => true | _, _ => false) && fitB ks vs
  | .b :: ks, .bool _ :: vs => fitB ks vs
  | _, _ => false
/-- Number by number. -/
def eqs : List Value → List Value → Bool
  | .int _ a :: l, .int _ b :: m => (a == b) && eqs l m
  | .bool a :: l, .bool b :: m => (a == b) && eqs l m
  | _, _ => true
def conjP : List Value → List Value → Prop
  | .int _ a :: l, .int _ b :: m => a = b ∧ conjP l m
  | .bool a :: l, .bool b :: m => a = b ∧ conjP l m
  | _, _ => True
theorem eqs_iff : ∀ (l m : List Value), eqs l m = true ↔ conjP l m
  | [], m => by cases m <;> simp [eqs, conjP]
  | x :: l, [] => by cases x <;> simp [eqs, conjP]
  | x :: l, y :: m => by
    have ih := eqs_iff l m
    cases x <;> cases y <;> simp [eqs, conjP, ih]
/-- No field without a name, no type that the model stands in for. -/
def plainF (P : Program) (go : TypeId → Bool) : List Field → Bool
  | [] => true
  | f :: fs => (f.name != "_") && go f.type && plainF P go fs
def plainT (P : Program) : Nat → TypeId → Bool
  | 0, _ => false
  | n + 1, t => match P.underlying t with
    | some (.int _) => true
    | some .bool => true
    | some (.struct fs) => !P.stoodInHeld t && plainF P (plainT P n) fs.toList
    | some (.array _ e) => plainT P n e
    | _ => false
theorem fitB_length : ∀ {ks : List FK} {vs : List Value}, fitB ks vs = true → vs.length = ks.length
  | [], [], _ => rfl
  | .i k :: ks, .int k' n :: vs, h => by
    simp only [fitB, Bool.and_eq_true] at h
    simp [fitB_length h.2]
  | .b :: ks, .bool x :: vs, h => by
    simp only [fitB] at h
    simp [fitB_length h]
theorem fitB_take : ∀ (n : Nat) {ks : List FK} {vs : List Value}, fitB ks vs = true → fitB (ks.take n) (vs.take n) = true
  | 0, _, _, _ => rfl
  | n + 1, [], [], _ => rfl
  | n + 1, .i k :: ks, .int k' q :: vs, h => by
    simp only [fitB, Bool.and_eq_true, List.take_succ_cons] at h ⊢
    exact ⟨h.1, fitB_take n h.2⟩
  | n + 1, .b :: ks, .bool x :: vs, h => by
    simp only [fitB, List.take_succ_cons] at h ⊢
    exact fitB_take n h
theorem fitB_drop : ∀ (n : Nat) {ks : List FK} {vs : List Value}, fitB ks vs = true → fitB (ks.drop n) (vs.drop n) = true
  | 0, _, _, h => h
  | n + 1, [], [], _ => rfl
  | n + 1, .i k :: ks, .int k' q :: vs, h => by
    simp only [fitB, Bool.and_eq_true, List.drop_succ_cons] at h ⊢
    exact fitB_drop n h.2
  | n + 1, .b :: ks, .bool x :: vs, h => by
    simp only [fitB, List.drop_succ_cons] at h ⊢
    exact fitB_drop n h
theorem eqs_append : ∀ {ks : List FK} {l m l' m' : List Value}, fitB ks l = true → fitB ks m = true → eqs (l ++ l') (m ++ m') = (eqs l m && eqs l' m')
  | [], [], [], l', m', _, _ => by simp [eqs]
  | .i k :: ks, .int k1 a :: l, .int k2 b :: m, l', m', h1, h2 => by
    simp only [fitB, Bool.and_eq_true] at h1 h2
    simp only [List.cons_append, eqs, eqs_append h1.2 h2.2, Bool.and_assoc]
  | .b :: ks, .bool a :: l, .bool b :: m, l', m', h1, h2 => by
    simp only [fitB] at h1 h2
    simp only [List.cons_append, eqs, eqs_append h1 h2, Bool.and_assoc]
/-- A value of which these are the cells. -/
def ofCells (agg : Bool) (l : List Value) : Value := if agg then .agg l.toArray else l.headD undef
def aggT (P : Program) (t : TypeId) : Bool := match P.underlying t with
  | some (.struct _) | some (.array _ _) => true
  | _ => false
section
variable {P : Program}
theorem run_isAgg' {t : TypeId} {d : TypeDesc} (h : P.underlying t = some d) (w : World) : (isAgg t).run P w = .ok (aggT P t) w := by
  unfold isAgg aggT
  rw [h]
  simp only [Sem.run_bind, run_underlying h w, Result.andThen_ok]
  cases d <;> rfl
theorem run_part' {t : TypeId} {d : TypeDesc} {cs : List Value} {off : Nat} {ks : List FK} (h : P.underlying t = some d) (hlen : (P.info? t).map (·.size) = some ks.length) (hone : aggT P t = false → ks.length = 1) (hfit : fitB ks ((cs.drop off).take ks.length) = true) (w : World) :
    (part t cs.toArray off).run P w = .ok (ofCells (aggT P t) ((cs.drop off).take ks.length)) w := by
  have hsz : (sizeOf t).run P w = .ok ks.length w := by
    cases hq : P.info? t with
    | none => rw [hq] at hlen; cases hlen
    | some inf =>
      rw [hq] at hlen
      simp only [Option.map_some, Option.some.injEq] at hlen
      simp [sizeOf, typeInfo, hq, hlen]
  unfold part
  simp only [Sem.run_bind, run_isAgg' h w, Result.andThen_ok]
  cases ha : aggT P t with
  | true =>
    simp only [if_true, Sem.run_bind, hsz, Result.andThen_ok, Sem.run_pure, ofCells]
    congr 2
    simp [List.extract_eq_take_drop]
  | false =>
    have h1 := hone ha
    have hl := fitB_length hfit
    rw [h1] at hl ⊢
    simp only [Bool.false_eq_true, if_false, ofCells]
    cases hc : cs.drop off with
    | nil => rw [hc] at hl; simp at hl
    | cons x r =>
      have : cs[off]? = some x := by
        have := List.getElem?_drop (xs := cs) (i := off) (j := 0)
        rw [hc] at this; simpa using this.symm
      simp [this]
theorem info_of {t : TypeId} {n : Nat} (h : n = P.cellsOf t) (h0 : 0 < n) : (P.info? t).map (·.size) = some n := by
  unfold Program.cellsOf at h
  cases hq : (P.info? t).map (·.size) with
  | none => rw [hq] at h; simp at h; omega
  | some q => rw [hq] at h; simp at h; rw [h]
theorem flat_und {n : Nat} {t : TypeId} {ks : List FK} (h : flatK P n t = some ks) : ∃ d, P.underlying t = some d := by
  cases n with
  | zero => simp [flatK] at h
  | succ n =>
    cases hu : P.underlying t with
    | none => simp [flatK, hu] at h
    | some d => exact ⟨d, rfl⟩
theorem flat_one {n : Nat} {t : TypeId} {ks : List FK} (h : flatK P n t = some ks) (ha : aggT P t = false) : ks.length = 1 := by
  cases n with
  | zero => simp [flatK] at h
  | succ n =>
    unfold flatK at h
    cases hu : P.underlying t with
    | none => simp [hu] at h
    | some d => cases d <;> simp_all [aggT] <;> (subst h; rfl)
theorem take_take_drop (l : List Value) (o a b : Nat) : ((l.drop o).take (a + b)).take a = (l.drop o).take a := by rw [List.take_take]; congr 1; omega
theorem drop_take_drop (l : List Value) (o a b : Nat) : ((l.drop o).take (a + b)).drop a = (l.drop (o + a)).take b := by rw [List.drop_take, List.drop_drop]; congr 1; omega
theorem fit_split {l1 l2 : List FK} {l : List Value} {o : Nat} (h : fitB (l1 ++ l2) ((l.drop o).take (l1 ++ l2).length) = true) :
    fitB l1 ((l.drop o).take l1.length) = true ∧ fitB l2 ((l.drop (o + l1.length)).take l2.length) = true := by
  rw [List.length_append] at h
  constructor
  · have := fitB_take l1.length h
    rwa [List.take_left, take_take_drop] at this
  · have := fitB_drop l1.length h
    rwa [List.drop_left, drop_take_drop] at this
theorem eqs_split {l1 l2 : List FK} {l m : List Value} {o : Nat} (h : fitB l1 ((l.drop o).take l1.length) = true) (h' : fitB l1 ((m.drop o).take l1.length) = true) :
    eqs ((l.drop o).take (l1 ++ l2).length) ((m.drop o).take (l1 ++ l2).length) = (eqs ((l.drop o).take l1.length) ((m.drop o).take l1.length) && eqs ((l.drop (o + l1.length)).take l2.length) ((m.drop (o + l1.length)).take l2.length)) := by
  have e : ∀ x : List Value, (x.drop o).take (l1 ++ l2).length = (x.drop o).take l1.length ++ (x.drop (o + l1.length)).take l2.length := fun x => by
    rw [List.length_append, List.take_add, List.drop_drop]
  rw [e l, e m, eqs_append h h']
theorem fit1_int {k : IntKind} {l : List Value} (h : fitB [.i k] l = true) : ∃ a, l = [.int k a] := by
  cases l with
  | nil => simp [fitB] at h
  | cons x r =>
    cases x with
    | int k' a =>
      simp only [fitB, Bool.and_eq_true] at h
      have hr : r = [] := by cases r with
        | nil => rfl
        | cons _ _ => simp [fitB] at h
      have hk : k' = k := by cases k <;> cases k' <;> simp at h <;> rfl
      exact ⟨a, by rw [hr, hk]⟩
    | _ => simp [fitB] at h
theorem fit1_bool {l : List Value} (h : fitB [.b] l = true) : ∃ a, l = [.bool a] := by
  cases l with
  | nil => simp [fitB] at h
  | cons x r =>
    cases x with
    | bool a =>
      simp only [fitB] at h
      have hr : r = [] := by cases r with
        | nil => rfl
        | cons _ _ => simp [fitB] at h
      exact ⟨a, by rw [hr]⟩
    | _ => simp [fitB] at h
theorem run_eq_flat : ∀ (n : Nat) (t : TypeId) (ks : List FK), flatK P n t = some ks → plainT P n t = true → ∀ (d : Nat), n ≤ d → ∀ (l m : List Value), fitB ks l = true → fitB ks m = true → ∀ w, (Op.equalIn d t (ofCells (aggT P t) l) (ofCells (aggT P t) m)).run P w = .ok (eqs l m) w
  | 0, _, _, h, _, _, _, _, _, _, _, _ => by simp [flatK] at h
  | n + 1, t, ks, h, hp, 0, hd, _, _, _, _, _ => by omega
  | n + 1, t, ks, h, hp, d + 1, hd, l, m, hl, hm, w => by
    have ih := run_eq_flat n
    unfold flatK at h
    unfold plainT at hp
    cases hu : P.underlying t with
    | none => simp [hu] at h
    | some de =>
      cases de with
      | int k =>
        simp only [hu, Option.some.injEq] at h
        subst h
        have ha : aggT P t = false := by simp [aggT, hu]
        rw [ha]
        obtain ⟨a, rfl⟩ := fit1_int hl
        obtain ⟨b, rfl⟩ := fit1_int hm
        simp only [ofCells, Bool.false_eq_true, if_false, List.headD_cons]
        rw [run_equalIn_int w d t _ _ a b hu]
        simp [eqs]
      | bool =>
        simp only [hu, Option.some.injEq] at h
        subst h
        have ha : aggT P t = false := by simp [aggT, hu]
        rw [ha]
        obtain ⟨a, rfl⟩ := fit1_bool hl
        obtain ⟨b, rfl⟩ := fit1_bool hm
        simp only [ofCells, Bool.false_eq_true, if_false, List.headD_cons]
        rw [run_equalIn_bool w d t a b hu]
        simp [eqs]
      | struct fs =>
        simp only [hu] at h hp
        have ha : aggT P t = true := by simp [aggT, hu]
        rw [ha]
        simp only [Bool.and_eq_true, Bool.not_eq_true'] at hp
        cases hff : flatF P (flatK P n) fs.toList 0 with
        | none => simp [hff] at h
        | some l0 =>
        simp only [hff] at h
        split at h
        · rename_i hlen0
          simp only [Option.some.injEq] at h
          subst h
          have hfo : P.fieldsOf t = fs := by simp [Program.fieldsOf, hu]
          simp only [ofCells, if_true]
          rw [run_equalIn_struct w d t l.toArray m.toArray (by rw [hfo]; exact hu) hp.1, hfo]
          have key : ∀ (fl : List Field) (o : Nat) (ks : List FK), flatF P (flatK P n) fl o = some ks → plainF P (plainT P n) fl = true → fitB ks ((l.drop o).take ks.length) = true → fitB ks ((m.drop o).take ks.length) = true →
              (Op.eqFields d l.toArray m.toArray fl).run P w = .ok (eqs ((l.drop o).take ks.length) ((m.drop o).take ks.length)) w := by
            intro fl
            induction fl with
            | nil => intro o ks hk _ _ _; simp only [flatF, Option.some.injEq] at hk; subst hk; simp [Op.eqFields, eqs]
            | cons f fl ihf =>
              intro o ks hk hpl hfl hfm
              simp only [flatF] at hk
              cases h1 : flatK P n f.type with
              | none => simp [h1] at hk
              | some l1 =>
                cases h2 : flatF P (flatK P n) fl (o + P.cellsOf f.type) with
                | none => simp [h1, h2] at hk
                | some l2 =>
                  simp only [h1, h2] at hk
                  split at hk
                  · rename_i hc
                    obtain ⟨c1, c2, c3⟩ := hc
                    simp only [Option.some.injEq] at hk
                    subst hk
                    rw [← c2] at h2
                    simp only [plainF, Bool.and_eq_true, bne_iff_ne, ne_eq] at hpl
                    obtain ⟨fl1, fl2⟩ := fit_split hfl
                    obtain ⟨fm1, fm2⟩ := fit_split hfm
                    obtain ⟨df, hdf⟩ := flat_und h1
                    have p1 := run_part' (cs := l) (off := f.offset) hdf (info_of c2 c3) (flat_one h1) (by rw [c1]; exact fl1) w
                    have p2 := run_part' (cs := m) (off := f.offset) hdf (info_of c2 c3) (flat_one h1) (by rw [c1]; exact fm1) w
                    rw [c1] at p1 p2
                    have p3 := ih f.type l1 h1 hpl.1.2 d (by omega) _ _ fl1 fm1 w
                    have p4 := ihf _ _ h2 hpl.2 fl2 fm2
                    rw [eqs_split fl1 fm1]
                    simp only [Op.eqFields, ne_eq, hpl.1.1, not_false_eq_true, if_true, Sem.run_bind]
                    rw [c1, p1]
                    simp only [Result.andThen_ok]
                    rw [p2]
                    simp only [Result.andThen_ok]
                    rw [p3]
                    simp only [Result.andThen_ok]
                    cases eqs ((l.drop o).take l1.length) ((m.drop o).take l1.length) with
                    | true => simpa using p4
                    | false => simp
                  · cases hk
          have hl' := fitB_length hl
          have hm' := fitB_length hm
          have := key fs.toList 0 l0 hff hp.2 (by rw [List.drop_zero, List.take_of_length_le (by omega)]; exact hl) (by rw [List.drop_zero, List.take_of_length_le (by omega)]; exact hm)
          rwa [List.drop_zero, List.drop_zero, List.take_of_length_le (by omega), List.take_of_length_le (by omega)] at this
        · cases h
      | array q e =>
        simp only [hu] at h hp
        have ha : aggT P t = true := by simp [aggT, hu]
        rw [ha]
        cases hl0 : flatK P n e with
        | none => simp [hl0] at h
        | some l0 =>
        simp only [hl0] at h
        split at h
        · rename_i hc
          obtain ⟨c1, c2, c3⟩ := hc
          simp only [Option.some.injEq] at h
          subst h
          obtain ⟨de, hde⟩ := flat_und hl0
          have hinf := info_of c1 c3
          obtain ⟨i, hi⟩ : ∃ i, P.info? e = some i := by
            cases hq : P.info? e with
            | none => rw [hq] at hinf; cases hinf
            | some i => exact ⟨i, rfl⟩
          simp only [ofCells, if_true]
          rw [run_equalIn_array w d l.toArray m.toArray hu hi, ← c1]
          have key : ∀ (j o : Nat), fitB (List.replicate j l0).flatten ((l.drop (o * l0.length)).take (j * l0.length)) = true → fitB (List.replicate j l0).flatten ((m.drop (o * l0.length)).take (j * l0.length)) = true →
              (Op.eqItems d e l0.length l.toArray m.toArray (List.range' o j)).run P w = .ok (eqs ((l.drop (o * l0.length)).take (j * l0.length)) ((m.drop (o * l0.length)).take (j * l0.length))) w := by
            intro j
            induction j with
            | zero => intro o _ _; simp [Op.eqItems, eqs]
            | succ j ihj =>
              intro o hfl hfm
              have hlen : (l0 ++ (List.replicate j l0).flatten).length = (j + 1) * l0.length := by simp [Nat.add_mul, Nat.add_comm]
              have hlen2 : (List.replicate j l0).flatten.length = j * l0.length := by simp
              rw [List.replicate_succ, List.flatten_cons, ← hlen] at hfl hfm
              obtain ⟨fl1, fl2⟩ := fit_split hfl
              obtain ⟨fm1, fm2⟩ := fit_split hfm
              rw [hlen2, show o * l0.length + l0.length = (o + 1) * l0.length from by rw [Nat.add_mul, Nat.one_mul]] at fl2 fm2
              have p1 := run_part' (cs := l) (off := o * l0.length) hde hinf (flat_one hl0) fl1 w
              have p2 := run_part' (cs := m) (off := o * l0.length) hde hinf (flat_one hl0) fm1 w
              have p3 := ih e l0 hl0 hp d (by omega) _ _ fl1 fm1 w
              have p4 := ihj (o + 1) fl2 fm2
              rw [← hlen, eqs_split fl1 fm1, hlen2, show o * l0.length + l0.length = (o + 1) * l0.length from by rw [Nat.add_mul, Nat.one_mul]]
              rw [List.range'_succ]
              simp only [Op.eqItems, Sem.run_bind]
              rw [p1]
              simp only [Result.andThen_ok]
              rw [p2]
              simp only [Result.andThen_ok]
              rw [p3]
              simp only [Result.andThen_ok]
              cases eqs ((l.drop (o * l0.length)).take l0.length) ((m.drop (o * l0.length)).take l0.length) with
              | true => simpa using p4
              | false => simp
          have hl' := fitB_length hl
          have hm' := fitB_length hm
          have hq : (List.replicate q l0).flatten.length = q * l0.length := by simp
          have := key q 0 (by rw [Nat.zero_mul, List.drop_zero, List.take_of_length_le (by omega)]; exact hl) (by rw [Nat.zero_mul, List.drop_zero, List.take_of_length_le (by omega)]; exact hm)
          rw [Nat.zero_mul, List.drop_zero, List.drop_zero, List.take_of_length_le (by omega), List.take_of_length_le (by omega)] at this
          rw [List.range_eq_range']; exact this
        · cases h
      | _ => simp [hu] at h
/-- The comparison of two structs or arrays of numbers. -/
theorem run_eql_flat {t : TypeId} {ks : List FK} {l m : List Value} (h : flatK P 9 t = some ks) (hp : plainT P 9 t = true) (ha : aggT P t = true) (hl : fitB ks l = true) (hm : fitB ks m = true) (w : World) : (binOp .eql t (.agg l.toArray) (.agg m.toArray)).run P w = .ok (.bool (eqs l m)) w := by
  rw [run_eql_struct]
  have := run_eq_flat 9 t ks h hp 10000 (by omega) l m hl hm w
  rw [ha] at this
  simp only [ofCells, if_true] at this
  rw [this]; rfl
theorem run_neq_flat {t : TypeId} {ks : List FK} {l m : List Value} (h : flatK P 9 t = some ks) (hp : plainT P 9 t = true) (ha : aggT P t = true) (hl : fitB ks l = true) (hm : fitB ks m = true) (w : World) : (binOp .neq t (.agg l.toArray) (.agg m.toArray)).run P w = .ok (.bool (!eqs l m)) w := by
  rw [run_neq_struct]
  have := run_eq_flat 9 t ks h hp 10000 (by omega) l m hl hm w
  rw [ha] at this
  simp only [ofCells, if_true] at this
  rw [this]; rfl
end
end Go.Proofs.Ytbjogekhedglgaa.SX
