import Derived.Test.YtnmkpekfkfckoaaHZR
import Derived.Test.YtnmkpekfkfckoaaHEw7
/- Helpers for a row: slices of records that came in, told as grown ones. No function in sight. -/
namespace Go.Proofs.Ytnmkpekfkfckoaa
set_option linter.unusedSectionVars false
set_option linter.unusedSimpArgs false
set_option linter.unusedVariables false
open Go.RowKit Go.ChangeShapes Go.WideShapes EV
/-- These cells stand there, and there is room. -/
def SrcG (w : World) (b off room : Nat) (L : List Value) : Prop :=
  L.length ≤ room ∧ (room = 0 ∨ ∃ cs ty fz, w.heap[b]? = some (.cells cs ty fz) ∧ off + room ≤ cs.size ∧ ∀ i x, L[i]? = some x → cs[off + i]? = some x)
/-- The slice that came in. -/
def InG (v : Value) (b off len room z : Nat) : Prop := (∃ cap, v = .slice (some ⟨b, off, none⟩) len cap ∧ len ≤ cap ∧ cap ≤ maxLen ∧ cap * z ≤ room) ∨ (len = 0 ∧ v = .slice none 0 0)
section
variable {H : Type} {enc : TypeId × Value → H} {P : Program} {w : World} {base : Nat} {sp : Nat → Bool} {held : Bool}
theorem cells_end {b off o n : Nat} {cs : List Value} (h : w.cells? base ((⟨b, off, none⟩ : Addr).add o) n = some cs) (hn : 0 < n) : ∃ cs ty fz, w.heap[b]? = some (.cells cs ty fz) ∧ off + o + n ≤ cs.size := by
  have hl := (World.cells?_some h).1
  have g3 := (World.cells?_some h).2.2 (n - 1) (by omega)
  have e2 : ∀ a b' : Nat, ((⟨b, off, none⟩ : Addr).add a).add b' = ⟨b, off + (a + b'), none⟩ := by
    intro a b'
    unfold Addr.add
    by_cases ha : a = 0 <;> by_cases hb : b' = 0 <;> simp [ha, hb] <;> omega
  rw [e2] at g3
  have hx : w.cell? ⟨b, off + (o + (n - 1)), none⟩ ≠ none := by
    rw [g3]
    intro h0
    rw [List.getElem?_eq_none_iff] at h0
    have := (World.cells?_some h).2.1
    omega
  unfold World.cell? at hx
  cases ho : w.heap[b]? with
  | none => simp [ho] at hx
  | some x =>
    cases x with
    | cells cs ty fz =>
      refine ⟨cs, ty, fz, rfl, ?_⟩
      rw [ho] at hx
      simp only [ne_eq] at hx
      rcases Nat.lt_or_ge (off + (o + (n - 1))) cs.size with h1 | h1
      · omega
      · exact absurd (Array.getElem?_eq_none h1) (by simpa using hx)
    | _ => simp [ho] at hx
theorem open_rowsG {r : Reach} {b0 : Nat} {t e : TypeId} {ks : List FK} {v : Value} {x : DataW H} {p : List MemPlace} (ht : P.underlying t = some (.slice e)) (hk : flatK P 9 e = some ks) (hc : P.cellsOf e = ks.length) (h0 : 0 < ks.length)
    (hv : Value.okWide P w r b0 t v) (h : DataW.Trod enc P w base (fun _ => true) held t v x p) :
    ∃ (b off len room : Nat) (rows : List (List Value)), rows.length = len ∧ (∀ s ∈ rows, Fit ks s) ∧ SrcG w b off room rows.flatten ∧ InG v b off len room ks.length := by
  obtain ⟨b, off, len, cap, rows, h1, h2, h3, h4⟩ := open_rows ht hk hc h0 hv h
  have hz : ∀ s ∈ rows, s.length = ks.length := fun s hs => (h2 s hs).length
  have hfl := flatten_len hz
  rcases h4 with rfl | ⟨rfl, rfl, rfl⟩
  · obtain ⟨n, hn⟩ := h
    have hcs : (Value.slice (some ⟨b, off, none⟩) len cap).cells.toList = [.slice (some ⟨b, off, none⟩) len cap] := rfl
    rw [hcs] at hn
    rcases DataW.trod_slice ht hn with ⟨h5, _⟩ | ⟨a, len', cap', elems, rest, m, _, h5, _, hb, hl, hm, hlen, hel, hre, _⟩
    · simp at h5
    · simp only [List.cons.injEq, Value.slice.injEq, and_true, Option.some.injEq] at h5
      obtain ⟨rfl, rfl, rfl⟩ := h5
      refine ⟨b, off, len, cap * ks.length, rows, h1, h2, ⟨by rw [hfl, h1]; exact Nat.mul_le_mul_right _ hl, ?_⟩, .inl ⟨cap, rfl, hl, hm, Nat.le_refl _⟩⟩
      rcases Nat.eq_zero_or_pos cap with hc0 | hc0
      · left; rw [hc0, Nat.zero_mul]
      right
      have hend : ∃ cs ty fz, w.heap[b]? = some (.cells cs ty fz) ∧ off + (cap - 1) * ks.length + ks.length ≤ cs.size := by
        rcases Nat.lt_or_ge len cap with hlt | hge
        · obtain ⟨g1, g2⟩ := hre rfl
          have := g2 (cap - len - 1) (by omega)
          rw [List.getElem?_eq_getElem (by omega), hc, Option.bind_eq_some_iff] at this
          obtain ⟨cs, g3, _⟩ := this
          rw [show len + (cap - len - 1) = cap - 1 by omega] at g3
          exact cells_end g3 h0
        · have := hel (cap - 1) (by omega)
          rw [List.getElem?_eq_getElem (by omega), hc, Option.bind_eq_some_iff] at this
          obtain ⟨cs, g3, _⟩ := this
          exact cells_end g3 h0
      obtain ⟨cs, ty, fz, g1, g2⟩ := hend
      have e1 : (cap - 1) * ks.length + ks.length = cap * ks.length := by rw [← Nat.succ_mul, Nat.succ_eq_add_one, Nat.sub_add_cancel hc0]
      refine ⟨cs, ty, fz, g1, by omega, fun i y hy => ?_⟩
      rcases h3 with h3 | ⟨cs', ty', fz', g3, _, g4⟩
      · rw [h3] at hy; simp at hy
      · rw [g1] at g3; cases g3
        exact g4 i y hy
  · exact ⟨0, 0, 0, 0, [], rfl, by simp, ⟨by simp, .inl rfl⟩, .inr ⟨rfl, rfl⟩⟩
end
/-- Where the blocks stand. -/
def envG (A : List (Nat × Nat × Nat)) : Env := ⟨fun n => (A.getD n (0, 0, 0)).1, fun n => (A.getD n (0, 0, 0)).2.1, fun n => (A.getD n (0, 0, 0)).2.2⟩
theorem calls_rowsG {P : Program} {f : FuncId} {args : List V} {us : List Value} {Ls : List (List Value)} {A : List (Nat × Nat × Nat)} {w : World} {lo hi : Nat} {R : Value} {h' : Sf} (hct : CT P f args (upd EW.emp (wsOf Ls 0)) lo hi (.c (.v R)) h') (hlo : lo = Ls.length) (hhi : hi ≤ 1000000)
    (hsrc : ∀ i L, Ls[i]? = some L → SrcG w (A.getD i (0, 0, 0)).1 (A.getD i (0, 0, 0)).2.1 (A.getD i (0, 0, 0)).2.2 L ∧ ∀ x ∈ L, x.oneCell' = true) (hargs : OkVs (upd EW.emp (wsOf Ls 0)) (envG A) args us) (hn : ∀ v ∈ args, ∀ n ∈ v.names, n < Ls.length) :
    Calls P f us.toArray w fun e w' => e = .returned R ∧ Below w.heap.size w w' := by
  subst hlo
  have hl : ∀ n, upd EW.emp (wsOf Ls 0) (.l n) = (Ls[n]?).map fun _ => KV.l true := fun n => by
    simp only [upd, EW.emp, lookW_of]; simp
  have hb : ∀ n, upd EW.emp (wsOf Ls 0) (.b n) = (Ls[n]?).map fun L => KV.b (.w false L) := fun n => by
    simp only [upd, EW.emp, lookW_of]; simp
  have := hct ⟨P, w, fun _ => False, EW.GV Ls.length 1000000, envG A, 0, []⟩ (envG A) w us rfl (fun n h1 h2 h3 => by
      rcases h3 with h3 | h3 <;> omega)
    ⟨fun n b h1 h2 => ?_, fun n n' b b' h1 h2 h3 h4 _ ho => ?_, fun n b h1 h2 ho => ?_, ⟨fun q x hq n hnn => ?_, fun n hx => ?_⟩, fun _ _ => .rfl, rfl, rfl, rfl, Nat.le_refl _, fun _ _ _ => rfl⟩
    hargs (fun v hv n hnn => by rw [hl, List.getElem?_eq_getElem (hn v hv n hnn)]; simp)
  · refine this.mono ?_
    rintro en w' ⟨u, e', rfl, h1, h2, _⟩
    have : u = R := Ok.plain h2
    subst this
    exact ⟨rfl, ⟨h1.os, h1.tape, h1.output, h1.size, fun k hk => h1.old k hk (fun h => h)⟩⟩
  · rw [hb] at h2
    cases hL : Ls[n]? with
    | none => rw [hL] at h2; cases h2
    | some L =>
      rw [hL] at h2
      cases h2
      obtain ⟨⟨g0, g1⟩, g2⟩ := hsrc n L hL
      refine ⟨by rw [List.length_map]; exact g0, ?_⟩
      rcases g1 with g1 | ⟨cs, ty, fz, g3, g4, g5⟩
      · left; exact g1
      · right
        refine ⟨cs, ty, fz, g3, fun h => (by cases h), g4, fun i x hx => ?_⟩
        rw [List.getElem?_map, Option.map_eq_some_iff] at hx
        obtain ⟨y, hy, rfl⟩ := hx
        exact ⟨y, g5 i y hy, ⟨g2 y (List.mem_of_getElem? hy), Ok.of⟩⟩
  · rw [hb] at h2
    cases hL : Ls[n]? with
    | none => rw [hL] at h2; cases h2
    | some L => rw [hL] at h2; cases h2; cases ho
  · rw [hb] at h2
    cases hL : Ls[n]? with
    | none => rw [hL] at h2; cases h2
    | some L => rw [hL] at h2; cases h2; cases ho
  · cases q with
    | t i => simp [upd, EW.emp, lookW_of] at hq
    | l m => rw [hl] at hq; cases hL : Ls[m]? <;> rw [hL] at hq <;> cases hq; cases hnn
    | b m => rw [hb] at hq; cases hL : Ls[m]? <;> rw [hL] at hq <;> cases hq; cases hnn
  · rw [hb] at hx
    rw [hl]
    cases hL : Ls[n]? with
    | none => rw [hL] at hx; exact absurd rfl hx
    | some L => simp
theorem okvs_sliceG {s : Sf} {A : List (Nat × Nat × Nat)} {n len b off room z : Nat} {u : Value} {vs : List V} {us : List Value} (hA : A.getD n (0, 0, 0) = (b, off, room)) (h : InG u b off len room z) (hr : OkVs s (envG A) vs us) : OkVs s (envG A) (.c (.g n 0 len len z) :: vs) (u :: us) := by
  refine ⟨_, _, rfl, ?_, hr⟩
  intro _
  show Rep (envG A) (.g n 0 len len z) u
  rcases h with ⟨cap, h1, h2, h3, h4⟩ | ⟨h1, h2⟩
  · left
    refine ⟨cap, ?_, h2, h2, h3, ?_⟩
    · rw [h1]; simp only [envG, hA, Nat.add_zero]
    · simp only [envG, hA]; omega
  · right; exact ⟨h1, h1, none, h2⟩
end Go.Proofs.Ytnmkpekfkfckoaa
/- Helpers for a row: slices within records; a walk that begins with blocks that came in, and opens more of them. No function in sight. -/
namespace Go.Proofs.Ytnmkpekfkfckoaa
set_option linter.unusedSimpArgs false
set_option linter.unusedVariables false
open Go.RowKit Go.ChangeShapes Go.WideShapes EV
/-- A slice that came in, whatever its address. -/
def InA (v : Value) (b off len room z : Nat) : Prop := (∃ cap, v = .slice (some ⟨b, off, none⟩) len cap ∧ len ≤ cap ∧ cap ≤ maxLen ∧ cap * z ≤ room) ∨ (len = 0 ∧ ∃ a, v = .slice a 0 0)
theorem InG.a {v : Value} {b off len room z : Nat} (h : InG v b off len room z) : InA v b off len room z := by
  rcases h with h | ⟨h1, h2⟩
  · exact .inl h
  · exact .inr ⟨h1, none, h2⟩
end Go.Proofs.Ytnmkpekfkfckoaa
