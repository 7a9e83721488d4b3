/- Helpers for a row: slices of records that came in, told as grown ones. No function in sight. -/
import Derived.Test.YtflgamohploalaaHZR
import Derived.Test.YtflgamohploalaaHEw7
namespace Go.Proofs.Ytflgamohploalaa
set_option linter.unusedSimpArgs false
set_option linter.unusedVariables false
open Go.RowKit Go.ChangeShapes Go.WideShapes EV
/-- These cells stand there, and there is room. -/
def SrcG (w : World) (b off room : Nat) (L : List Value) : Prop :=
  L.length ≤ room ∧ (room = 0 ∨ ∃ cs ty fz, w.heap[b]? = some (.cells cs ty fz) ∧ off + room ≤ cs.size ∧ ∀ i x, L[i]? = some x → cs[off + i]? = some x)
/-- The slice that came in. -/
def InG (v : Value) (b off len room z : Nat) : Prop := (∃ cap, v = .slice (some ⟨b, off, none⟩) len cap ∧ len ≤ cap ∧ cap ≤ maxLen ∧ cap * z ≤ room) ∨ (len = 0 ∧ v = .slice none 0 0)
section
variable {H : Type} {enc : TypeId × Value → H} {P : Program} {w : World} {base : Nat} {sp : Nat → Bool} {held : Bool}
theorem cells_end {b off o n : Nat} {cs : List Value} (h : w.cells? base ((⟨b, off, none⟩ : Addr).add o) n = some cs) (hn : 0 < n) : ∃ cs ty fz, w.heap[b]? = some (.cells cs ty fz) ∧ off + o + n ≤ cs.size := by
  have hl := (World.cells?_some h).1
  have g3 := (World.cells?_some h).2.2 (n - 1) (by omega)
  have e2 : ∀ a b' : Nat, ((⟨b, off, none⟩ : Addr).add a).add b' = ⟨b, off + (a + b'), none⟩ := by
    intro a b'
    unfold Addr.add
    by_cases ha : a = 0 <;> by_cases hb : b' = 0 <;> simp [ha, hb] <;> omega
  rw [e2] at g3
  have hx : w.cell? ⟨b, off + (o + (n - 1)), none⟩ ≠ none := by
    rw [g3]
    intro h0
    rw [List.getElem?_eq_none_iff] at h0
    have := (World.cells?_some h).2.1
    omega
  unfold World.cell? at hx
  cases ho : w.heap[b]? with
  | none => simp [ho] at hx
  | some x =>
    cases x with
    | cells cs ty fz =>
      refine ⟨cs, ty, fz, rfl, ?_⟩
      rw [ho] at hx
      simp only [ne_eq] at hx
      rcases Nat.lt_or_ge (off + (o + (n - 1))) cs.size with h1 | h1
      · omega
      · exact absurd (Array.getElem?_eq_none h1) (by simpa using hx)
    | _ => simp [ho] at hx
end
/-- Where the blocks stand. -/
def envG (A : List (Nat × Nat × Nat)) : Env := ⟨fun n => (A.getD n (0, 0, 0)).1, fun n => (A.getD n (0, 0, 0)).2.1, fun n => (A.getD n (0, 0, 0)).2.2⟩
theorem calls_rowsG {P : Program} {f : FuncId} {args : List V} {us : List Value} {Ls : List (List Value)} {A : List (Nat × Nat × Nat)} {w : World} {lo hi : Nat} {R : Value} {h' : Sf} (hct : CT P f args (upd EW.emp (wsOf Ls 0)) lo hi (.c (.v R)) h') (hlo : lo = Ls.length) (hhi : hi ≤ 1000000)
    (hsrc : ∀ i L, Ls[i]? = some L → SrcG w (A.getD i (0, 0, 0)).1 (A.getD i (0, 0, 0)).2.1 (A.getD i (0, 0, 0)).2.2 L ∧ ∀ x ∈ L, x.oneCell' = true) (hargs : OkVs (upd EW.emp (wsOf Ls 0)) (envG A) args us) (hn : ∀ v ∈ args, ∀ n ∈ v.names, n < Ls.length) :
    Calls P f us.toArray w fun e w' => e = .returned R ∧ Below w.heap.size w w' := by
  subst hlo
  have hl : ∀ n, upd EW.emp (wsOf Ls 0) (.l n) = (Ls[n]?).map fun _ => KV.l true := fun n => by
    simp only [upd, EW.emp, lookW_of]; simp
  have hb : ∀ n, upd EW.emp (wsOf Ls 0) (.b n) = (Ls[n]?).map fun L => KV.b (.w false L) := fun n => by
    simp only [upd, EW.emp, lookW_of]; simp
  have := hct ⟨P, w, fun _ => False, EW.GV Ls.length 1000000, envG A, 0, []⟩ (envG A) w us rfl (fun n h1 h2 h3 => by
      rcases h3 with h3 | h3 <;> omega)
    ⟨fun n b h1 h2 => ?_, fun n n' b b' h1 h2 h3 h4 _ ho => ?_, fun n b h1 h2 ho => ?_, ⟨fun q x hq n hnn => ?_, fun n hx => ?_⟩, fun _ _ => .rfl, rfl, rfl, rfl, Nat.le_refl _, fun _ _ _ => rfl⟩
    hargs (fun v hv n hnn => by rw [hl, List.getElem?_eq_getElem (hn v hv n hnn)]; simp)
  · refine this.mono ?_
    rintro en w' ⟨u, e', rfl, h1, h2, _⟩
    have : u = R := Ok.plain h2
    subst this
    exact ⟨rfl, ⟨h1.os, h1.tape, h1.output, h1.size, fun k hk => h1.old k hk (fun h => h)⟩⟩
  · rw [hb] at h2
    cases hL : Ls[n]? with
    | none => rw [hL] at h2; cases h2
    | some L =>
      rw [hL] at h2
      cases h2
      obtain ⟨⟨g0, g1⟩, g2⟩ := hsrc n L hL
      refine ⟨by rw [List.length_map]; exact g0, ?_⟩
      rcases g1 with g1 | ⟨cs, ty, fz, g3, g4, g5⟩
      · left; exact g1
      · right
        refine ⟨cs, ty, fz, g3, fun h => (by cases h), g4, fun i x hx => ?_⟩
        rw [List.getElem?_map, Option.map_eq_some_iff] at hx
        obtain ⟨y, hy, rfl⟩ := hx
        exact ⟨y, g5 i y hy, ⟨g2 y (List.mem_of_getElem? hy), Ok.of⟩⟩
  · rw [hb] at h2
    cases hL : Ls[n]? with
    | none => rw [hL] at h2; cases h2
    | some L => rw [hL] at h2; cases h2; cases ho
  · rw [hb] at h2
    cases hL : Ls[n]? with
    | none => rw [hL] at h2; cases h2
    | some L => rw [hL] at h2; cases h2; cases ho
  · cases q with
    | t i => simp [upd, EW.emp, lookW_of] at hq
    | l m => rw [hl] at hq; cases hL : Ls[m]? <;> rw [hL] at hq <;> cases hq; cases hnn
    | b m => rw [hb] at hq; cases hL : Ls[m]? <;> rw [hL] at hq <;> cases hq; cases hnn
  · rw [hb] at hx
    rw [hl]
    cases hL : Ls[n]? with
    | none => rw [hL] at hx; exact absurd rfl hx
    | some L => simp
end Go.Proofs.Ytflgamohploalaa
