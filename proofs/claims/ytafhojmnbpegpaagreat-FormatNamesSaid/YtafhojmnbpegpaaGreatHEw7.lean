/- Walking over named blocks: slices told as grown ones. No program in sight. -/
import Derived.Test.YtafhojmnbpegpaaGreatHZE
namespace Go.Proofs.YtafhojmnbpegpaaGreat.EW
set_option linter.unusedSectionVars false
set_option linter.unusedSimpArgs false
set_option linter.unusedVariables false
open Go.RowKit EV
open SX (Is)
section
variable {c : Ctx} {F : Fence} {nn : Nat} {id : Nat} {ops : Array Oper} {draw : Bool} {Q : Exit → Act → World → Prop} {σ0 σ s : Sf} {i : Nat} {rest : List Oper} {tr : List Tr} {sup : List Nat} {e : Env} {a : Act} {w : World}
theorem eNilEqV [hF : WideLike F] {d : Tmp} {x y : Operand} {p : Option Addr} {l k : Nat} {t ty el : TypeId} {rt : TypeId} {pos : String} {af : Array Edge} {g : Option (Nat × Bool)} {gk : List Key}
    (hr : RX c F nn id ops draw Q σ0 (i + 1) rest (upd σ [(.t d, .v (.c (.v (.bool p.isNone))))]) (⟨orR gk (kr (([] ++ opk x) ++ opk y)), [(.t d, .v (.c (.v (.bool p.isNone))))]⟩ :: tr) sup)
    (hG : autoParam (GOk ops σ g gk) aGOK._auto_1) (hx : opv σ x = some (.c (.v (.slice p l k))) := by rfl) (hy : opv σ y = some (.c (.v (.slice none 0 0))) := by rfl) (hu : c.P.underlying t = some (.slice el) := by rfl) (hN : dOk c.N (some d) = true := by rfl) :
    RX c F nn id ops draw Q σ0 i (⟨some d, .binOp .eql t x y ty, rt, pos, af, g⟩ :: rest) σ tr sup := RX_po hF hr hG hN rfl (PO.nilEq (.vS hx hu) hy)
/-- A slot by the very value that it holds: an empty slice. -/
theorem Real.raw (h : Real c s e a w) {t : Nat} {v : V} {u : Value} (ht : s (.t t) = some (.v v)) (hu : a.tmps[t]? = some u) : Real c (upd s [(.t t, .v (.c (.v u)))]) e a w := by
  have hb : ∀ n, upd s [(.t t, .v (.c (.v u)))] (.b n) = s (.b n) := fun n => by rw [upd_cons_ne _ _ _ (by simp), upd_nil]
  have hl : ∀ n, upd s [(.t t, .v (.c (.v u)))] (.l n) = s (.l n) := fun n => by rw [upd_cons_ne _ _ _ (by simp), upd_nil]
  have hmo : ∀ n, Mo s e (upd s [(.t t, .v (.c (.v u)))]) e n := fun n => ⟨fun hx => by unfold live at *; rwa [hl] at hx, .rfl⟩
  refine ⟨h.W.slots hb hl ⟨fun q x hq n hnn => ?_, fun n hx => ?_⟩, h.defers, fun n hn => by rw [hl, hb]; exact h.fml n hn, h.slots, fun i x hx => ?_⟩
  · rw [hl]
    rw [upd_cons, upd_nil] at hq
    split at hq
    · cases hq; cases hnn
    · exact h.W.cl.1 q x hq n hnn
  · rw [hl]; rw [hb] at hx; exact h.W.cl.2 n hx
  · rw [upd_cons, upd_nil] at hx
    split at hx
    · next he =>
      cases he; cases hx
      exact ⟨u, hu, Ok.of⟩
    · obtain ⟨u', h1, h2⟩ := h.tmp i x hx
      exact ⟨u', h1, OkV.mono (fun n _ => hmo n) h2⟩
theorem eRaw0 {code : Code} (t : Nat) {n o b z : Nat} (hr : ∀ (p : Option Addr) (k : Nat), CX c F nn code Q (upd σ [(.t t, .v (.c (.v (.slice p 0 k))))]) sup) (ht : σ (.t t) = some (.v (.c (.g n o 0 b z))) := by rfl) (ha : σ (.l n) = some (.l true) := by rfl) : CX c F nn code Q σ sup :=
  ⟨⟨fun e a w hR => by
    obtain ⟨u, h1, h2⟩ := hR.tmp t _ ht
    have h3 := h2 (fun m hm => by simp only [C.names, List.mem_singleton] at hm; subst hm; exact ha)
    have : ∃ p k, u = .slice p 0 k := by
      rcases h3 with ⟨k, h3, _⟩ | ⟨_, _, p, h3⟩
      · exact ⟨_, _, h3⟩
      · exact ⟨_, _, h3⟩
    obtain ⟨p, k, rfl⟩ := this
    exact (hr p k).go.go e a w (Real.raw hR ht h1)⟩⟩
/-- No slice, told as a short one with a block of its own, at the end. -/
theorem eNilGK {K : Act → World → Prop} (t n z : Nat) {p : Option Addr} (hr : KX c K (upd (upd σ (wsNew n (.w true []))) [(.t t, .v (.c (.g n 0 0 0 z)))]) sup) (ht : σ (.t t) = some (.v (.c (.v (.slice p 0 0)))) := by rfl) (hn : σ (.l n) = none := by rfl) (hg : autoParam (¬ c.gv n) aGVN._auto_1) : KX c K σ sup :=
  ⟨⟨fun e a w hR => hr.go.go _ a w (Real.retell (Real.ghost hR hg hn) (by rw [wsNew_t]; exact ht) (fun u hu _ => by
    have : u = .slice p 0 0 := Ok.plain hu
    exact .inr ⟨rfl, rfl, p, this⟩) (fun k hk => by
    simp only [V.names, C.names, List.mem_singleton] at hk
    subst hk; rw [wsNew_l, if_pos rfl]; simp))⟩⟩
end
end Go.Proofs.YtafhojmnbpegpaaGreat.EW
