/- Helpers for a row: the numbers' bounds. No function in sight. Helpers for a row: what came in as structs and arrays of numbers is such numbers. No function in sight. Helpers for a row: what came in as slices of records of numbers. No function in sight. -/
import Derived.Test.YtnmkpekfkfckoaaRows
import Derived.WalkKit
import Derived.ProofKit
import Derived.OpenShut
import Derived.ShutString
import Derived.ChangeOld
import Derived.Below
import Derived.Carry
import Derived.Lib.SmallJoins
import Derived.Test.YtnmkpekfkfckoaaHZE
namespace Go.Proofs.Ytnmkpekfkfckoaa
set_option linter.unusedSectionVars false
open Go.RowKit Go.ChangeShapes Go.WideShapes
theorem wf_bounds {k : IntKind} {n : Int} (h : (Lit.int k n).wf = true) : k.min ≤ n ∧ n ≤ k.max := by
  simpa only [Lit.wf, Bool.and_eq_true, decide_eq_true_eq] using h
theorem wf_u32 {n : Int} (h : (Lit.int .u32 n).wf = true) : 0 ≤ n ∧ n < 4294967296 := by
  have := wf_bounds h
  have e1 : IntKind.u32.min = 0 := rfl
  have e2 : IntKind.u32.max = 4294967295 := rfl
  omega
theorem wf_u8 {n : Int} (h : (Lit.int .u8 n).wf = true) : 0 ≤ n ∧ n < 256 := by
  have := wf_bounds h
  have e1 : IntKind.u8.min = 0 := rfl
  have e2 : IntKind.u8.max = 255 := rfl
  omega
theorem own : ownKnob Try.prog.godebug = none := by kernel_rfl
theorem laidOut : laidOutB Try.prog = true := by kernel_rfl
end Go.Proofs.Ytnmkpekfkfckoaa
namespace Go.Proofs.Ytnmkpekfkfckoaa
open Go.RowKit Go.ChangeShapes Go.WideShapes
theorem rg_i64 {n : Int} (h : IntKind.i64.min ≤ n ∧ n ≤ IntKind.i64.max) : -9223372036854775808 ≤ n ∧ n ≤ 9223372036854775807 := h
theorem rg_u32 {n : Int} (h : IntKind.u32.min ≤ n ∧ n ≤ IntKind.u32.max) : 0 ≤ n ∧ n < 4294967296 := by
  have e1 : IntKind.u32.min = 0 := rfl
  have e2 : IntKind.u32.max = 4294967295 := rfl
  omega
theorem rg_u8 {n : Int} (h : IntKind.u8.min ≤ n ∧ n ≤ IntKind.u8.max) : 0 ≤ n ∧ n < 256 := by
  have e1 : IntKind.u8.min = 0 := rfl
  have e2 : IntKind.u8.max = 255 := rfl
  omega
inductive FK where
  | i (k : IntKind)
  | b
def flatF (P : Program) (go : TypeId → Option (List FK)) : List Field → Nat → Option (List FK)
  | [], _ => some []
  | f :: fs, o => match go f.type, flatF P go fs (o + P.cellsOf f.type) with
    | some l, some r => if f.offset = o ∧ l.length = P.cellsOf f.type then some (l ++ r) else none
    | _, _ => none
/-- The cells of a type that holds numbers and truths alone. -/
def flatK (P : Program) : Nat → TypeId → Option (List FK)
  | 0, _ => none
  | n + 1, t => match P.underlying t with
    | some (.int k) => some [.i k]
    | some .bool => some [.b]
    | some (.struct fs) => match flatF P (flatK P n) fs.toList 0 with
      | some l => if l.length = P.cellsOf t then some l else none
      | none => none
    | some (.array m e) => match flatK P n e with
      | some l => if l.length = P.cellsOf e ∧ m * l.length = P.cellsOf t then some (List.replicate m l).flatten else none
      | none => none
    | _ => none
def Fit : List FK → List Value → Prop
  | [], vs => vs = []
  | .i k :: ks, vs => ∃ n r, vs = .int k n :: r ∧ k.min ≤ n ∧ n ≤ k.max ∧ Fit ks r
  | .b :: ks, vs => ∃ x r, vs = .bool x :: r ∧ Fit ks r
theorem Fit.length : ∀ {ks : List FK} {vs : List Value}, Fit ks vs → vs.length = ks.length
  | [], _, h => by rw [show _ = [] from h]; rfl
  | .i k :: ks, _, ⟨n, r, e, _, _, h⟩ => by rw [e]; simp [Fit.length h]
  | .b :: ks, _, ⟨n, r, e, h⟩ => by rw [e]; simp [Fit.length h]
theorem Fit.append : ∀ {ks ks' : List FK} {vs vs' : List Value}, Fit ks vs → Fit ks' vs' → Fit (ks ++ ks') (vs ++ vs')
  | [], _, _, _, h, h' => by rw [show _ = [] from h]; exact h'
  | .i k :: ks, _, _, _, ⟨n, r, e, a, b, h⟩, h' => by rw [e]; exact ⟨n, _, rfl, a, b, h.append h'⟩
  | .b :: ks, _, _, _, ⟨n, r, e, h⟩, h' => by rw [e]; exact ⟨n, _, rfl, h.append h'⟩
section
variable {H : Type} {enc : TypeId × Value → H} {P : Program} {w : World} {base : Nat} {sp : Nat → Bool} {held : Bool}
theorem mapM_some {α β : Type} {f : α → Option β} : ∀ {l : List α} {r : List β}, l.mapM f = some r → ∀ x ∈ l, ∃ y, f x = some y
  | [], _, _, x, hx => by cases hx
  | a :: l, r, h, x, hx => by
    simp only [List.mapM_cons, Option.bind_eq_bind, Option.bind_eq_some_iff] at h
    obtain ⟨y, hy, ys, hys, _⟩ := h
    rcases List.mem_cons.1 hx with rfl | hx
    · exact ⟨y, hy⟩
    · exact mapM_some hys x hx
theorem flat_fit : ∀ (n : Nat) (t : TypeId) (ks : List FK), flatK P n t = some ks → ∀ (m : Nat) (cs : List Value) (x : DataW H × List MemPlace), DataW.trod enc P w base sp held m t cs = some x → Fit ks cs
  | 0, _, _, h, _, _, _, _ => by simp [flatK] at h
  | n + 1, t, ks, h, 0, cs, x, hx => by simp [DataW.trod] at hx
  | n + 1, t, ks, h, m + 1, cs, x, hx => by
    have ih := flat_fit n
    unfold flatK at h
    cases hu : P.underlying t with
    | none => simp [hu] at h
    | some d =>
      cases d with
      | int k =>
        simp only [hu, Option.some.injEq] at h
        subst h
        simp only [DataW.trod, hu] at hx
        match cs, hx with
        | [.int k' q], hx =>
          simp only at hx
          split at hx
          · rename_i hk
            obtain ⟨rfl, hw⟩ := hk
            exact ⟨q, [], rfl, (wf_bounds hw).1, (wf_bounds hw).2, rfl⟩
          · cases hx
      | bool =>
        simp only [hu, Option.some.injEq] at h
        subst h
        simp only [DataW.trod, hu] at hx
        match cs, hx with
        | [.bool q], hx => exact ⟨q, [], rfl, rfl⟩
      | struct fs =>
        simp only [hu] at h
        cases hff : flatF P (flatK P n) fs.toList 0 with
        | none => simp [hff] at h
        | some l0 =>
        simp only [hff] at h
        split at h
        · rename_i hlen0
          simp only [Option.some.injEq] at h
          subst h
          simp only [DataW.trod, hu] at hx
          split at hx
          · rename_i hl
            simp only [Option.map_eq_some_iff] at hx
            obtain ⟨ys, hys, _⟩ := hx
            have hall := mapM_some hys
            have key : ∀ (fl : List Field) (o : Nat) (ks : List FK), flatF P (flatK P n) fl o = some ks → (∀ f ∈ fl, ∃ y, DataW.trod enc P w base sp held m f.type ((cs.drop f.offset).take (P.cellsOf f.type)) = some y) → Fit ks ((cs.drop o).take ks.length) := by
              intro fl
              induction fl with
              | nil => intro o ks hk _; simp only [flatF, Option.some.injEq] at hk; subst hk; simp [Fit]
              | cons f fl ihf =>
                intro o ks hk hf
                simp only [flatF] at hk
                cases h1 : flatK P n f.type with
                | none => simp [h1] at hk
                | some l1 =>
                  cases h2 : flatF P (flatK P n) fl (o + P.cellsOf f.type) with
                  | none => simp [h1, h2] at hk
                  | some l2 =>
                    simp only [h1, h2] at hk
                    split at hk
                    · rename_i hc
                      simp only [Option.some.injEq] at hk
                      subst hk
                      obtain ⟨y, hy⟩ := hf f List.mem_cons_self
                      have f1 := ih _ _ h1 _ _ _ hy
                      have f2 := ihf _ _ h2 (fun g hg => hf g (List.mem_cons_of_mem _ hg))
                      rw [hc.1, ← hc.2] at f1
                      rw [← hc.2] at f2
                      have e : (cs.drop o).take (l1 ++ l2).length = (cs.drop o).take l1.length ++ (cs.drop (o + l1.length)).take l2.length := by
                        rw [List.length_append, List.take_add, List.drop_drop]
                      rw [e]; exact f1.append f2
                    · cases hk
            have := key fs.toList 0 l0 hff hall
            rwa [List.drop_zero, List.take_of_length_le (by omega)] at this
          · cases hx
        · cases h
      | array q e =>
        simp only [hu] at h
        cases hl0 : flatK P n e with
        | none => simp [hl0] at h
        | some l =>
        simp only [hl0] at h
        split at h
        · rename_i hc
          obtain ⟨c1, c2⟩ := hc
          simp only [Option.some.injEq] at h
          subst h
          simp only [DataW.trod, hu] at hx
          split at hx
          · rename_i hl
            simp only [Option.map_eq_some_iff] at hx
            obtain ⟨ys, hys, _⟩ := hx
            have hall := mapM_some hys
            have key : ∀ j, j ≤ q → Fit (List.replicate j l).flatten (cs.take (j * l.length)) := by
              intro j
              induction j with
              | zero => intro _; simp [Fit]
              | succ j ihj =>
                intro hj
                obtain ⟨y, hy⟩ := hall j (List.mem_range.2 (by omega))
                have f1 := ih _ _ hl0 _ _ _ hy
                rw [← c1] at f1
                have e1 : (List.replicate (j + 1) l).flatten = (List.replicate j l).flatten ++ l := by
                  rw [List.replicate_succ', List.flatten_append]; simp
                rw [e1, Nat.add_mul, Nat.one_mul, List.take_add]
                exact (ihj (by omega)).append f1
            have := key q (Nat.le_refl _)
            rwa [List.take_of_length_le (by omega)] at this
          · cases hx
        · cases h
      | _ => simp [hu] at h
end
end Go.Proofs.Ytnmkpekfkfckoaa
namespace Go.Proofs.Ytnmkpekfkfckoaa
set_option linter.unusedSimpArgs false
set_option linter.unusedVariables false
open Go.RowKit Go.ChangeShapes Go.WideShapes EV
/-- These cells stand there. -/
def Src (w : World) (b off : Nat) (L : List Value) : Prop :=
  L = [] ∨ ∃ cs ty fz, w.heap[b]? = some (.cells cs ty fz) ∧ off + L.length ≤ cs.size ∧ ∀ i x, L[i]? = some x → cs[off + i]? = some x
section
variable {H : Type} {enc : TypeId × Value → H} {P : Program} {w : World} {base : Nat} {sp : Nat → Bool} {held : Bool}
theorem flatten_get {rows : List (List Value)} {z : Nat} (hz : ∀ r ∈ rows, r.length = z) : ∀ i x, rows.flatten[i]? = some x → ∃ r, rows[i / z]? = some r ∧ r[i % z]? = some x := by
  induction rows with
  | nil => intro i x h; simp at h
  | cons r rows ih =>
    intro i x h
    have hr : r.length = z := hz r (by simp)
    rw [List.flatten_cons] at h
    rcases Nat.lt_or_ge i z with h1 | h1
    · rw [List.getElem?_append_left (by omega)] at h
      rw [Nat.div_eq_of_lt h1, Nat.mod_eq_of_lt h1]
      exact ⟨r, rfl, h⟩
    · rw [List.getElem?_append_right (by omega), hr] at h
      obtain ⟨s, g1, g2⟩ := ih (fun s hs => hz s (by simp [hs])) _ _ h
      have hz0 : 0 < z := by
        rcases Nat.eq_zero_or_pos z with h0 | h0
        · exfalso
          have : ∀ s ∈ rows, s = [] := fun s hs => List.length_eq_zero_iff.1 (by rw [hz s (by simp [hs]), h0])
          have e : rows.flatten = [] := List.flatten_eq_nil_iff.2 this
          rw [e] at h; simp at h
        · exact h0
      refine ⟨s, ?_, ?_⟩
      · rw [show i / z = (i - z) / z + 1 by rw [Nat.div_eq_sub_div hz0 h1]]
        simpa using g1
      · rw [Nat.mod_eq_sub_mod h1]; exact g2
theorem flatten_len {rows : List (List Value)} {z : Nat} (hz : ∀ r ∈ rows, r.length = z) : rows.flatten.length = rows.length * z := by
  induction rows with
  | nil => simp
  | cons r rows ih =>
    rw [List.flatten_cons, List.length_append, ih (fun s hs => hz s (by simp [hs])), hz r (by simp), List.length_cons, Nat.add_mul]; omega
theorem open_rows {r : Reach} {b0 : Nat} {t e : TypeId} {ks : List FK} {v : Value} {x : DataW H} {p : List MemPlace} (ht : P.underlying t = some (.slice e)) (hk : flatK P 9 e = some ks) (hc : P.cellsOf e = ks.length) (h0 : 0 < ks.length)
    (hv : Value.okWide P w r b0 t v) (h : DataW.Trod enc P w base sp held t v x p) :
    ∃ (b off len cap : Nat) (rows : List (List Value)), rows.length = len ∧ (∀ s ∈ rows, Fit ks s) ∧ Src w b off rows.flatten ∧ (v = .slice (some ⟨b, off, none⟩) len cap ∨ (len = 0 ∧ cap = 0 ∧ v = .slice none 0 0)) := by
  obtain ⟨n, hn⟩ := h
  have hv' : Cell.ok P w r b0 t v := by
    unfold Value.okWide at hv
    rw [ht] at hv
    unfold Cell.okWide at hv
    rw [ht] at hv
    cases v <;> exact hv
  obtain ⟨a0, len0, cap0, rfl⟩ := okWide_slice ht hv
  have hcs : (Value.slice a0 len0 cap0).cells.toList = [.slice a0 len0 cap0] := rfl
  rw [hcs] at hn
  rcases DataW.trod_slice ht hn with ⟨h1, _⟩ | ⟨a, len, cap, elems, rest, m, _, h1, _, hb, hl, hm, hlen, hel, _, _⟩
  · simp only [List.cons.injEq, Value.slice.injEq, and_true] at h1
    obtain ⟨rfl, rfl, rfl⟩ := h1
    exact ⟨0, 0, 0, 0, [], rfl, by simp, .inl rfl, .inr ⟨rfl, rfl, rfl⟩⟩
  · simp only [List.cons.injEq, Value.slice.injEq, and_true] at h1
    obtain ⟨rfl, rfl, rfl⟩ := h1
    have hspot : a.spot = none := by
      unfold Cell.ok at hv'
      rw [ht] at hv'
      exact hv'.2.2.2.1
    obtain ⟨ab, ao, asp⟩ := a
    simp only at hspot
    subst hspot
    have each : ∀ i, i < len0 → ∃ cs, w.cells? base ((⟨ab, ao, none⟩ : Addr).add (i * ks.length)) ks.length = some cs ∧ Fit ks cs := by
      intro i hi
      have := hel i hi
      rw [List.getElem?_eq_getElem (by omega), hc, Option.bind_eq_some_iff] at this
      obtain ⟨cs, h2, h3⟩ := this
      exact ⟨cs, h2, flat_fit 9 e ks hk _ _ _ h3⟩
    have key : ∀ j, j ≤ len0 → ∃ rows : List (List Value), rows.length = j ∧ (∀ s ∈ rows, Fit ks s) ∧ ∀ i s, rows[i]? = some s → w.cells? base ((⟨ab, ao, none⟩ : Addr).add (i * ks.length)) ks.length = some s := by
      intro j
      induction j with
      | zero => intro _; exact ⟨[], rfl, by simp, by simp⟩
      | succ j ih =>
        intro hj
        obtain ⟨rows, h2, h3, h4⟩ := ih (by omega)
        obtain ⟨cs, h5, h6⟩ := each j (by omega)
        refine ⟨rows ++ [cs], by simp [h2], ?_, ?_⟩
        · intro s hs
          rcases List.mem_append.1 hs with hs | hs
          · exact h3 s hs
          · simp only [List.mem_singleton] at hs; subst hs; exact h6
        · intro i s hs
          rcases Nat.lt_or_ge i j with hi | hi
          · rw [List.getElem?_append_left (by omega)] at hs; exact h4 i s hs
          · rw [List.getElem?_append_right (by omega)] at hs
            have : i = j := by
              have := (List.getElem?_eq_some_iff.1 hs).1
              simp at this; omega
            subst this
            rw [h2, Nat.sub_self] at hs
            simp only [List.getElem?_cons_zero, Option.some.injEq] at hs
            subst hs; exact h5
    obtain ⟨rows, h2, h3, h4⟩ := key len0 (Nat.le_refl _)
    have hz : ∀ s ∈ rows, s.length = ks.length := fun s hs => (h3 s hs).length
    refine ⟨ab, ao, len0, cap0, rows, h2, h3, ?_, .inl rfl⟩
    rcases Nat.eq_zero_or_pos len0 with hl0 | hl0
    · left
      have : rows = [] := List.eq_nil_of_length_eq_zero (by omega)
      rw [this]; rfl
    right
    have cell : ∀ i x, rows.flatten[i]? = some x → w.cell? ⟨ab, ao + i, none⟩ = some x := by
      intro i x hx
      obtain ⟨s, g1, g2⟩ := flatten_get hz i x hx
      have g3 := (World.cells?_some (h4 _ _ g1)).2.2 (i % ks.length) (Nat.mod_lt _ h0)
      rw [g2] at g3
      have e1 : i / ks.length * ks.length + i % ks.length = i := by rw [Nat.mul_comm]; exact Nat.div_add_mod i ks.length
      have e2 : ∀ a b : Nat, ((⟨ab, ao, none⟩ : Addr).add a).add b = ⟨ab, ao + (a + b), none⟩ := by
        intro a b
        unfold Addr.add
        by_cases ha : a = 0 <;> by_cases hb : b = 0 <;> simp [ha, hb] <;> omega
      rw [e2, e1] at g3
      exact g3
    obtain ⟨x0, hx0⟩ : ∃ x, rows.flatten[0]? = some x := by
      rw [List.getElem?_eq_getElem (by rw [flatten_len hz, h2]; exact Nat.mul_pos hl0 h0)]; exact ⟨_, rfl⟩
    have hh : ∃ cs ty fz, w.heap[ab]? = some (.cells cs ty fz) := by
      have := cell 0 x0 hx0
      unfold World.cell? at this
      cases ho : w.heap[ab]? with
      | none => simp [ho] at this
      | some o =>
        cases o with
        | cells cs ty fz => exact ⟨cs, ty, fz, rfl⟩
        | _ => simp [ho] at this
    obtain ⟨cs, ty, fz, hh⟩ := hh
    have get : ∀ i x, rows.flatten[i]? = some x → cs[ao + i]? = some x := by
      intro i x hx
      have := cell i x hx
      unfold World.cell? at this
      simpa [hh] using this
    refine ⟨cs, ty, fz, hh, ?_, get⟩
    have hlen2 := flatten_len hz
    have hpos : 0 < rows.flatten.length := by rw [hlen2, h2]; exact Nat.mul_pos hl0 h0
    have := get (rows.flatten.length - 1) _ (List.getElem?_eq_getElem (by omega))
    have := (Array.getElem?_eq_some_iff.1 this).1
    omega
end
/-- The blocks that come in. -/
def wsOf : List (List Value) → Nat → Ws
  | [], _ => []
  | L :: r, i => (.l i, .l true) :: (.b i, .b (.w false L)) :: wsOf r (i + 1)
theorem lookW_of : ∀ (Ls : List (List Value)) (i : Nat) (q : Key), lookW (wsOf Ls i) q = match q with
    | .t _ => none
    | .l n => if i ≤ n then (Ls[n - i]?).map fun _ => KV.l true else none
    | .b n => if i ≤ n then (Ls[n - i]?).map fun L => KV.b (.w false L) else none
  | [], i, q => by cases q <;> simp [wsOf, lookW]
  | L :: r, i, q => by
    simp only [wsOf, lookW, lookW_of r (i + 1) q]
    cases q with
    | t j => simp [Key.beq]
    | l n =>
      by_cases h : i = n
      · subst h; simp [Key.beq]
      · have hne : Nat.beq i n = false := by
          cases hb : Nat.beq i n with
          | true => exact absurd (Nat.eq_of_beq_eq_true hb) h
          | false => rfl
        simp only [Key.beq, hne, cond_false]
        by_cases hle : i ≤ n
        · rw [if_pos hle, if_pos (by omega), show n - i = n - (i + 1) + 1 from by omega]; simp
        · rw [if_neg hle, if_neg (by omega)]
    | b n =>
      by_cases h : i = n
      · subst h; simp [Key.beq]
      · have hne : Nat.beq i n = false := by
          cases hb : Nat.beq i n with
          | true => exact absurd (Nat.eq_of_beq_eq_true hb) h
          | false => rfl
        simp only [Key.beq, hne, cond_false]
        by_cases hle : i ≤ n
        · rw [if_pos hle, if_pos (by omega), show n - i = n - (i + 1) + 1 from by omega]; simp
        · rw [if_neg hle, if_neg (by omega)]
theorem okvs_nil {s : Sf} {e : Env} : OkVs s e [] [] := rfl
end Go.Proofs.Ytnmkpekfkfckoaa
