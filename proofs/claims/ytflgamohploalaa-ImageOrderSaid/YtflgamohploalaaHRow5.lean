/- Helpers for a row: slices within records; a walk that begins with blocks that came in, and opens more of them. No function in sight. -/
import Derived.Test.YtflgamohploalaaHRow4
namespace Go.Proofs.Ytflgamohploalaa
set_option linter.unusedSectionVars false
set_option linter.unusedSimpArgs false
set_option linter.unusedVariables false
open Go.RowKit Go.ChangeShapes Go.WideShapes EV
/-- A slice that came in, whatever its address. -/
def InA (v : Value) (b off len room z : Nat) : Prop := (∃ cap, v = .slice (some ⟨b, off, none⟩) len cap ∧ len ≤ cap ∧ cap ≤ maxLen ∧ cap * z ≤ room) ∨ (len = 0 ∧ ∃ a, v = .slice a 0 0)
section
variable {H : Type} {enc : TypeId × Value → H} {P : Program} {w : World} {base : Nat} {held : Bool}
theorem cells_spot {a : Addr} {n : Nat} {cs : List Value} (h : w.cells? base a n = some cs) (hn : 0 < n) : a.spot = none := by
  have g3 := (World.cells?_some h).2.2 0 hn
  have hl := (World.cells?_some h).2.1
  rw [List.getElem?_eq_getElem (by omega)] at g3
  unfold World.cell? at g3
  have e : (a.add 0) = a := by unfold Addr.add; simp
  rw [e] at g3
  split at g3
  · split at g3
    · cases g3
    · next h => simpa using h
  · cases g3
theorem open_sliceQ {e t : TypeId} {z fuel : Nat} {v : Value} {x : DataW H × List MemPlace} {Q : List Value → Prop} (ht : P.underlying t = some (.slice e)) (hc : P.cellsOf e = z) (h0 : 0 < z)
    (hq : ∀ m cs x, DataW.trod enc P w base (fun _ => true) held m e cs = some x → Q cs) (h : DataW.trod enc P w base (fun _ => true) held fuel t [v] = some x) :
    ∃ (b off len room : Nat) (rows : List (List Value)), rows.length = len ∧ (∀ s ∈ rows, s.length = z ∧ Q s) ∧ SrcG w b off room rows.flatten ∧ InA v b off len room z := by
  rcases DataW.trod_slice ht h with ⟨h1, _⟩ | ⟨a, len, cap, elems, rest, m, _, h1, _, hb, hl, hm, hlen, hel, hre, _⟩
  · simp only [List.cons.injEq, and_true] at h1
    subst h1
    exact ⟨0, 0, 0, 0, [], rfl, by simp, ⟨by simp, .inl rfl⟩, .inr ⟨rfl, none, rfl⟩⟩
  · simp only [List.cons.injEq, and_true] at h1
    subst h1
    rcases Nat.eq_zero_or_pos cap with hc0 | hc0
    · subst hc0
      have : len = 0 := by omega
      subst this
      exact ⟨0, 0, 0, 0, [], rfl, by simp, ⟨by simp, .inl rfl⟩, .inr ⟨rfl, _, rfl⟩⟩
    have each : ∀ i, i < cap → ∃ cs, w.cells? base (a.add (i * z)) z = some cs ∧ Q cs := by
      intro i hi
      rcases Nat.lt_or_ge i len with h2 | h2
      · have := hel i h2
        rw [List.getElem?_eq_getElem (by omega), hc, Option.bind_eq_some_iff] at this
        obtain ⟨cs, h3, h4⟩ := this
        exact ⟨cs, h3, hq _ _ _ h4⟩
      · obtain ⟨g1, g2⟩ := hre rfl
        have := g2 (i - len) (by omega)
        rw [List.getElem?_eq_getElem (by omega), hc, Option.bind_eq_some_iff, show len + (i - len) = i by omega] at this
        obtain ⟨cs, h3, h4⟩ := this
        exact ⟨cs, h3, hq _ _ _ h4⟩
    obtain ⟨ab, ao, asp⟩ := a
    have hspot : asp = none := by
      obtain ⟨cs, h2, _⟩ := each 0 hc0
      have := cells_spot h2 h0
      simpa [Addr.add] using this
    subst hspot
    have key : ∀ j, j ≤ len → ∃ rows : List (List Value), rows.length = j ∧ (∀ s ∈ rows, s.length = z ∧ Q s) ∧ ∀ i s, rows[i]? = some s → w.cells? base ((⟨ab, ao, none⟩ : Addr).add (i * z)) z = some s := by
      intro j
      induction j with
      | zero => intro _; exact ⟨[], rfl, by simp, by simp⟩
      | succ j ih =>
        intro hj
        obtain ⟨rows, h2, h3, h4⟩ := ih (by omega)
        obtain ⟨cs, h5, h6⟩ := each j (by omega)
        refine ⟨rows ++ [cs], by simp [h2], ?_, ?_⟩
        · intro s hs
          rcases List.mem_append.1 hs with hs | hs
          · exact h3 s hs
          · simp only [List.mem_singleton] at hs; subst hs; exact ⟨(World.cells?_some h5).2.1, h6⟩
        · intro i s hs
          rcases Nat.lt_or_ge i j with hi | hi
          · rw [List.getElem?_append_left (by omega)] at hs; exact h4 i s hs
          · rw [List.getElem?_append_right (by omega)] at hs
            have : i = j := by
              have := (List.getElem?_eq_some_iff.1 hs).1
              simp at this; omega
            subst this
            rw [h2, Nat.sub_self] at hs
            simp only [List.getElem?_cons_zero, Option.some.injEq] at hs
            subst hs; exact h5
    obtain ⟨rows, h2, h3, h4⟩ := key len (Nat.le_refl _)
    have hz : ∀ s ∈ rows, s.length = z := fun s hs => (h3 s hs).1
    have hfl := flatten_len hz
    refine ⟨ab, ao, len, cap * z, rows, h2, h3, ⟨by rw [hfl, h2]; exact Nat.mul_le_mul_right _ hl, .inr ?_⟩, .inl ⟨cap, rfl, hl, hm, Nat.le_refl _⟩⟩
    obtain ⟨cs0, g0, _⟩ := each (cap - 1) (by omega)
    obtain ⟨cs, ty, fz, g1, g2⟩ := cells_end g0 h0
    have e1 : (cap - 1) * z + z = cap * z := by rw [← Nat.succ_mul, Nat.succ_eq_add_one, Nat.sub_add_cancel hc0]
    refine ⟨cs, ty, fz, g1, by omega, fun i y hy => ?_⟩
    obtain ⟨s, q1, q2⟩ := flatten_get hz i y hy
    have g3 := (World.cells?_some (h4 _ _ q1)).2.2 (i % z) (Nat.mod_lt _ h0)
    rw [q2] at g3
    have e1 : i / z * z + i % z = i := by rw [Nat.mul_comm]; exact Nat.div_add_mod i z
    have e2 : ∀ a b : Nat, ((⟨ab, ao, none⟩ : Addr).add a).add b = ⟨ab, ao + (a + b), none⟩ := by
      intro a b
      unfold Addr.add
      by_cases ha : a = 0 <;> by_cases hb : b = 0 <;> simp [ha, hb] <;> omega
    rw [e2, e1] at g3
    unfold World.cell? at g3
    simpa [g1] using g3
theorem trod_int {t : TypeId} {k : IntKind} {fuel : Nat} {v : Value} {x : DataW H × List MemPlace} (ht : P.underlying t = some (.int k)) (h : DataW.trod enc P w base (fun _ => true) held fuel t [v] = some x) : ∃ n, v = .int k n ∧ k.min ≤ n ∧ n ≤ k.max := by
  have := flat_fit (ks := [.i k]) 1 t (by simp [flatK, ht]) _ _ _ h
  obtain ⟨n, r, e, h1, h2, h3⟩ := this
  simp only [List.cons.injEq] at e
  exact ⟨n, e.1, h1, h2⟩
/-- The fields of a record, each by itself. -/
theorem trod_fields {t : TypeId} {fs : Array Field} {fuel : Nat} {cs : List Value} {x : DataW H × List MemPlace} (ht : P.underlying t = some (.struct fs)) (h : DataW.trod enc P w base (fun _ => true) held fuel t cs = some x) :
    cs.length = P.cellsOf t ∧ ∀ f ∈ fs.toList, ∃ m y, DataW.trod enc P w base (fun _ => true) held m f.type ((cs.drop f.offset).take (P.cellsOf f.type)) = some y := by
  cases fuel with
  | zero => simp [DataW.trod] at h
  | succ m =>
    simp only [DataW.trod, ht] at h
    split at h
    · rename_i hl
      simp only [Option.map_eq_some_iff] at h
      obtain ⟨ys, hys, _⟩ := h
      exact ⟨hl, fun f hf => by
        obtain ⟨y, hy⟩ := mapM_some hys f hf
        exact ⟨m, y, hy⟩⟩
    · cases h
end
theorem InG.a {v : Value} {b off len room z : Nat} (h : InG v b off len room z) : InA v b off len room z := by
  rcases h with h | ⟨h1, h2⟩
  · exact .inl h
  · exact .inr ⟨h1, none, h2⟩
theorem InA.rep {e : Env} {n : Nat} {v : Value} {b off len room z : Nat} (h : InA v b off len room z) (h1 : e.id n = b) (h2 : e.bs n = off) (h3 : e.rm n = room) : Rep e (.g n 0 len len z) v := by
  rcases h with ⟨cap, g1, g2, g3, g4⟩ | ⟨g1, a, g2⟩
  · exact .inl ⟨cap, by rw [h1, h2]; exact g1, g2, g2, g3, by rw [h3]; omega⟩
  · exact .inr ⟨g1, g1, a, g2⟩
end Go.Proofs.Ytflgamohploalaa
