/- More rules. No program in sight. -/
import Derived.Test.YtafhojmnbpegpaaGreatHEw7
namespace Go.Proofs.YtafhojmnbpegpaaGreat.EW
set_option linter.unusedSectionVars false
set_option linter.unusedSimpArgs false
set_option linter.unusedVariables false
open Go.RowKit EV
open SX (Wr Tv Qu Rm Sh Is conjP eqs)
variable {c : Ctx} {F : Fence} {nn : Nat} {id : Nat} {ops : Array Oper} {draw : Bool} {Q : Exit → Act → World → Prop} {σ0 σ s : Sf} {i : Nat} {rest : List Oper} {tr : List Tr} {sup : List Nat} {e : Env} {a : Act} {w : World}
/-- All bits turned. -/
theorem eInv [hF : WideLike F] {d : Tmp} {x : Operand} {k : IntKind} {a r : Int} {t : TypeId} {rt : TypeId} {pos : String} {af : Array Edge} {g : Option (Nat × Bool)} {gk : List Key}
    (hr : RX c F nn id ops draw Q σ0 (i + 1) rest (upd σ [(.t d, .v (.c (.v (.int k r))))]) (⟨orR gk (kr (opk x)), [(.t d, .v (.c (.v (.int k r))))]⟩ :: tr) sup)
    (hG : autoParam (GOk ops σ g gk) aGOK._auto_1) (hx : opv σ x = some (.c (.v (.int k a))) := by rfl) (hr' : Is (k.wrap ((BitVec.ofInt k.bits (if k.signed then -1 else k.max)) ^^^ BitVec.ofInt k.bits a).toNat) r := by exact ⟨rfl⟩) (hN : dOk c.N (some d) = true := by rfl) :
    RX c F nn id ops draw Q σ0 i (⟨some d, .unOp .xor t x, rt, pos, af, g⟩ :: rest) σ tr sup := RX_po hF hr hG hN rfl (PO.un hx (by simp only [unC, hr'.eq]))
/-- Cells of plain values, told as such: of worlds. -/
theorem RealW.toW (n : Nat) (o : Bool) (L : List Value) (h : RealW c s e w) (hb : s (.b n) = some (.b (.m o (L.map C.v)))) : RealW c (upd s [(.b n, .b (.w o L))]) e w := by
  have hbk : ∀ k, upd s [(.b n, .b (.w o L))] (.b k) = if n = k then some (.b (.w o L)) else s (.b k) := fun k => by rw [upd_cons, upd_nil]; simp
  have hl : ∀ k, upd s [(.b n, .b (.w o L))] (.l k) = s (.l k) := fun k => by rw [upd_cons_ne _ _ _ (by simp), upd_nil]
  have ht : ∀ k, upd s [(.b n, .b (.w o L))] (.t k) = s (.t k) := fun k => by rw [upd_cons_ne _ _ _ (by simp), upd_nil]
  have hmo : ∀ m, Mo s e (upd s [(.b n, .b (.w o L))]) e m := fun m => ⟨fun hx => by unfold live at *; rwa [hl] at hx, .rfl⟩
  have old : ∀ k b, upd s [(.b n, .b (.w o L))] (.b k) = some (.b b) → ∃ b', s (.b k) = some (.b b') ∧ b'.own = b.own ∧ (∀ w, BOk s e w k b' → BOk s e w k b) ∧ ∀ m ∈ b.names, m ∈ b'.names := fun k b h => by
    rw [hbk] at h
    by_cases hk : n = k
    · subst hk; rw [if_pos rfl] at h; cases h
      exact ⟨_, hb, rfl, fun _ h => h, fun m hm => by cases hm⟩
    · rw [if_neg hk] at h; exact ⟨b, h, rfl, fun _ h => h, fun m hm => hm⟩
  refine ⟨fun k b h1 h2 => ?_, fun k k' b b' h1 h2 h3 h4 hne ho => ?_, fun k b h1 h2 ho => ?_, ⟨fun q x hq m hm => ?_, fun k hx => ?_⟩, h.given, h.os, h.tape, h.output, h.size, h.old⟩
  · rw [hl] at h1
    obtain ⟨b', g1, g2, g3, g4⟩ := old k b h2
    exact (g3 w (h.blk k b' h1 g1)).mono (fun m _ => hmo m) .rfl (fun _ => rfl)
  · rw [hl] at h1 h3
    obtain ⟨b1, g1, g2, _⟩ := old k b h2
    obtain ⟨b2, g3, _⟩ := old k' b' h4
    exact h.sep k k' b1 b2 h1 g1 h3 g3 hne (g2.trans ho)
  · rw [hl] at h1
    obtain ⟨b1, g1, g2, _⟩ := old k b h2
    exact h.own k b1 h1 g1 (g2.trans ho)
  · rw [hl]
    cases q with
    | t i => rw [ht] at hq; exact h.cl.1 _ x hq m hm
    | l i => rw [hl] at hq; exact h.cl.1 _ x hq m hm
    | b i =>
      rw [hbk] at hq
      split at hq
      · cases hq; cases hm
      · exact h.cl.1 _ x hq m hm
  · rw [hl]
    rw [hbk] at hx
    split at hx
    · next hk => subst hk; exact h.cl.2 n (by rw [hb]; simp)
    · exact h.cl.2 k hx
/-- A contract holds where its blocks are told by their cells. -/
theorem CT.toW {P : Program} {f : FuncId} {args : List V} {lo hi n : Nat} {v : V} {s' : Sf} {L : List Value} (h : CT P f args (upd s [(.b n, .b (.w true L))]) lo hi v s') (hb : s (.b n) = some (.b (.m true (L.map C.v)))) : CT P f args s lo hi v s' := by
  intro c e w us hP hm hW hu hn
  have hl : ∀ k, upd s [(.b n, .b (.w true L))] (.l k) = s (.l k) := fun k => by rw [upd_cons_ne _ _ _ (by simp), upd_nil]
  exact h c e w us hP hm (RealW.toW n true L hW hb) (OkVs.mono (fun v _ m _ => ⟨fun hx => by unfold live at *; rwa [hl] at hx, .rfl⟩) hu) (fun v hv m hm => by rw [hl]; exact hn v hv m hm)
end Go.Proofs.YtafhojmnbpegpaaGreat.EW
