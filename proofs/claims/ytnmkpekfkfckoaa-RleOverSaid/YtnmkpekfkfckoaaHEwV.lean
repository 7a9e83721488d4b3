import Derived.Test.YtnmkpekfkfckoaaHPyA
import Derived.Test.YtnmkpekfkfckoaaHPyB
import Derived.Test.YtnmkpekfkfckoaaHIm3
import Derived.Test.YtnmkpekfkfckoaaHEwU
/- pixel: the document's Take, case by case. -/
/- pixel: what is taken of bytes: plain laws; Take and the document's, of any bytes. -/
namespace Go.Proofs.Ytnmkpekfkfckoaa
set_option linter.unusedSimpArgs false
set_option linter.unusedVariables false
open Go.RowKit EV
open SX (Wr Tv Qu Rm Sh Is conjP eqs_iff eqs_false)
open EW (PlL PlT PlV PlVs LfV Mm Bt Opn GV YT lpOf nums)
set_option maxRecDepth 20000
/-- The pixel that bytes begin with, and how many these are. -/
def takeP (l : List Int) : Option (Px × Nat) :=
  match num l with
  | none => none
  | some (z, k0) => if z = 16777216 then some (⟨16777216, 0, 0, 0⟩, k0) else if 16777216 < z then none else
    match num (l.drop k0) with
    | none => none
    | some (o, k1) => if 65535 < o then none else
      match num (l.drop (k0 + k1)) with
      | none => none
      | some (t, k2) => if 63 < t then none else
        match num (l.drop (k0 + k1 + k2)) with
        | none => none
        | some (c, k3) => if o = 0 ∨ 4294967295 < c then none else some (⟨z, o, t, c⟩, k0 + k1 + k2 + k3)
/-- How a pixel is taken. -/
inductive TkP (l : List Int) : Option (Px × Nat) → Prop
  | e (k0 : Nat) (h0 : num l = some (16777216, k0)) : TkP l (some (⟨16777216, 0, 0, 0⟩, k0))
  | n (z o t c k0 k1 k2 k3 : Nat) (h0 : num l = some (z, k0)) (hz : z < 16777216) (h1 : num (l.drop k0) = some (o, k1)) (ho : o ≤ 65535) (h2 : num (l.drop (k0 + k1)) = some (t, k2)) (ht : t ≤ 63) (h3 : num (l.drop (k0 + k1 + k2)) = some (c, k3)) (o1 : 1 ≤ o) (hc : c ≤ 4294967295) : TkP l (some (⟨z, o, t, c⟩, k0 + k1 + k2 + k3))
  | f0 (hf : ∀ v k, num l = some (v, k) → 16777216 < v) : TkP l none
  | f1 (z k0 : Nat) (h0 : num l = some (z, k0)) (hz : z < 16777216) (hf : ∀ v k, num (l.drop k0) = some (v, k) → 65535 < v) : TkP l none
  | f2 (z o k0 k1 : Nat) (h0 : num l = some (z, k0)) (hz : z < 16777216) (h1 : num (l.drop k0) = some (o, k1)) (ho : o ≤ 65535) (hf : ∀ v k, num (l.drop (k0 + k1)) = some (v, k) → 63 < v) : TkP l none
  | f3 (z o t k0 k1 k2 : Nat) (h0 : num l = some (z, k0)) (hz : z < 16777216) (h1 : num (l.drop k0) = some (o, k1)) (ho : o ≤ 65535) (h2 : num (l.drop (k0 + k1)) = some (t, k2)) (ht : t ≤ 63) (hf : num (l.drop (k0 + k1 + k2)) = none) : TkP l none
  | f4 (z o t c k0 k1 k2 k3 : Nat) (h0 : num l = some (z, k0)) (hz : z < 16777216) (h1 : num (l.drop k0) = some (o, k1)) (ho : o ≤ 65535) (h2 : num (l.drop (k0 + k1)) = some (t, k2)) (ht : t ≤ 63) (h3 : num (l.drop (k0 + k1 + k2)) = some (c, k3)) (hb : o = 0 ∨ 4294967295 < c) : TkP l none
theorem takeP_is (l : List Int) : TkP l (takeP l) := by
  unfold takeP
  cases h0 : num l with
  | none => exact .f0 fun v k h => by rw [h0] at h; cases h
  | some q0 =>
    obtain ⟨z, k0⟩ := q0
    dsimp only
    by_cases hz : z = 16777216
    · rw [if_pos hz]; subst hz; exact .e k0 h0
    rw [if_neg hz]
    by_cases hz2 : 16777216 < z
    · rw [if_pos hz2]; exact .f0 fun v k h => by rw [h0] at h; cases h; exact hz2
    rw [if_neg hz2]
    cases h1 : num (l.drop k0) with
    | none => exact .f1 z k0 h0 (by omega) fun v k h => by rw [h1] at h; cases h
    | some q1 =>
      obtain ⟨o, k1⟩ := q1
      dsimp only
      by_cases ho : 65535 < o
      · rw [if_pos ho]; exact .f1 z k0 h0 (by omega) fun v k h => by rw [h1] at h; cases h; exact ho
      rw [if_neg ho]
      cases h2 : num (l.drop (k0 + k1)) with
      | none => exact .f2 z o k0 k1 h0 (by omega) h1 (by omega) fun v k h => by rw [h2] at h; cases h
      | some q2 =>
        obtain ⟨t, k2⟩ := q2
        dsimp only
        by_cases ht : 63 < t
        · rw [if_pos ht]; exact .f2 z o k0 k1 h0 (by omega) h1 (by omega) fun v k h => by rw [h2] at h; cases h; exact ht
        rw [if_neg ht]
        cases h3 : num (l.drop (k0 + k1 + k2)) with
        | none => exact .f3 z o t k0 k1 k2 h0 (by omega) h1 (by omega) h2 (by omega) h3
        | some q3 =>
          obtain ⟨c, k3⟩ := q3
          dsimp only
          by_cases hb : o = 0 ∨ 4294967295 < c
          · rw [if_pos hb]; exact .f4 z o t c k0 k1 k2 k3 h0 (by omega) h1 (by omega) h2 (by omega) h3 hb
          · rw [if_neg hb]; exact .n z o t c k0 k1 k2 k3 h0 (by omega) h1 (by omega) h2 (by omega) h3 (by omega) (by omega)
theorem by_drop {l : List Int} (h : By l) (k : Nat) : By (l.drop k) := fun x hx => h x (List.mem_of_mem_drop hx)
end Go.Proofs.Ytnmkpekfkfckoaa
/- pixel: Write, Take and the document's, of any pixel and bytes. -/
namespace Go.Proofs.Ytnmkpekfkfckoaa
set_option linter.unusedSimpArgs false
set_option linter.unusedVariables false
open Go.RowKit EV
open SX (Wr Tv Qu Rm Sh Is conjP eqs_iff eqs_false)
open EW (PlL PlT PlV PlVs LfV Mm Bt Opn GV YT lpOf nums)
set_option maxRecDepth 20000
theorem px_nat {p : Px} (hm : p.may) (hw : p.wf) : p = ⟨16777216, 0, 0, 0⟩ ∨ ∃ z o t c : Nat, p = ⟨z, o, t, c⟩ ∧ z < 16777216 ∧ (1 ≤ o ∧ o ≤ 65535) ∧ t < 64 ∧ c < 4294967296 := by
  obtain ⟨z, o, t, c⟩ := p
  obtain ⟨w1, w2, w3, w4⟩ := hw
  unfold Px.may at hm
  dsimp only at *
  rcases hm with ⟨a1, a2, a3, a4, a5⟩ | ⟨rfl, rfl, rfl, rfl⟩
  · right
    refine ⟨z.toNat, o.toNat, t.toNat, c.toNat, ?_, by omega, by omega, by omega, by omega⟩
    rw [Int.toNat_of_nonneg (by omega), Int.toNat_of_nonneg (by omega), Int.toNat_of_nonneg (by omega), Int.toNat_of_nonneg (by omega)]
  · left; rfl
theorem pwrite_y (p : Px) (bs : List Int) (hm : p.may) (hw : p.wf) (hl : bs.length ≤ 300000) : CT Try.prog 35 [.c (.p 0 0), .a (pcl p.z p.o p.t p.c)] (upd EW.emp (WW bs false)) 2 3 (.c (.v (.int .i64 0))) (upd (upd EW.emp (WW bs false)) (Wmore (bs ++ encP p))) := by
  rcases px_nat hm hw with rfl | ⟨z, o, t, c, rfl, hz, ho, ht, hc⟩
  · exact pwrite_e bs (by omega)
  · rw [encP_n hz]; exact pwrite_n z o t c bs (by omega) hz ho ht hc
theorem dd (bs : List Int) (a b : Nat) : (bs.drop a).drop b = bs.drop (a + b) := by rw [List.drop_drop]
theorem dd3 (bs : List Int) (a b c : Nat) : (bs.drop a).drop (b + c) = bs.drop (a + b + c) := by rw [List.drop_drop, Nat.add_assoc]
theorem dd4 (bs : List Int) (a b c d : Nat) : (bs.drop a).drop (b + c + d) = bs.drop (a + b + c + d) := by rw [List.drop_drop, Nat.add_assoc a b c, Nat.add_assoc a (b + c) d]
theorem num_le {bs : List Int} {q n v k : Nat} (hy : By bs) (hn : q + n = bs.length) (h : num (bs.drop q) = some (v, k)) : 0 < k ∧ k ≤ n ∧ v < 18446744073709551616 := by
  obtain ⟨_, h1, h2, _, h3⟩ := num_spec (by_drop hy q) h
  rw [List.length_drop] at h2
  exact ⟨h1, by omega, h3⟩
end Go.Proofs.Ytnmkpekfkfckoaa
/- Walking over named blocks: a slice that is loaded out of a cell gets a name of its own. No program in sight. -/
namespace Go.Proofs.Ytnmkpekfkfckoaa.EW
set_option linter.unusedSectionVars false
set_option linter.unusedSimpArgs false
set_option linter.unusedVariables false
open Go.RowKit EV
open SX (Is)
section
variable {c : Ctx} {F : Fence} {nn : Nat} {id : Nat} {ops : Array Oper} {draw : Bool} {Q : Exit → Act → World → Prop} {σ0 σ s s' : Sf} {i : Nat} {rest : List Oper} {tr : List Tr} {sup : List Nat} {e e' : Env} {a : Act} {w : World}
theorem LocalO.loadSub1 (hF : WideLike F) {n o n' o' len lb z m : Nat} {t : TypeId} {x : Operand} {b : B} {own : Bool} {l : List C} {L L' : List Value} {d : Option Tmp} {rt : TypeId} {pos : String} {af : Array Edge} {g : Option (Nat × Bool)} (hN : dOk c.N d = true) (hx : opv σ x = some (.c (.p n o))) (ha : σ (.l n) = some (.l true)) (hb : σ (.b n) = some (.b b)) (hl : b.cellsC = some (own, l))
    (ht : tRow c.P t = some false) (hj : l[o]? = some (.g n' o' len lb z)) (hm : ¬ c.gv m) (hn : σ (.l m) = none) (ha' : σ (.l n') = some (.l true)) (hB : σ (.b n') = some (.b (.w false L))) (hL : Sub L L' o') :
    LocalO c F nn ⟨d, .load t x, rt, pos, af, g⟩ σ ⟨kr (.l m :: .l n' :: .b n' :: .l n :: .b n :: opk x), putW d (.c (.g m 0 len len z)) ++ wsNew m (.w false L')⟩ := by
  refine LocalO.act hF hN (noDefer rfl) fun s e a w hag hR => ?_
  have hag' : ∀ q ∈ Key.l n :: .b n :: opk x, s q = σ q := fun q hq => hag q (kr_iff.2 (by
    simp only [List.mem_cons] at hq ⊢
    rcases hq with h | h | h
    · exact .inr (.inr (.inr (.inl h)))
    · exact .inr (.inr (.inr (.inr (.inl h))))
    · exact .inr (.inr (.inr (.inr (.inr h))))))
  have ex := ev1r hx hag' (fun q h => by simp [h]) hR rfl ha (by simp)
  simp only [Rep] at ex
  have hbs : s (.b n) = some (.b b) := by rw [hag' _ (by simp)]; exact hb
  have hM := hR.W.cells (n := n) (by rw [hag' _ (by simp)]; exact ha) hbs hl
  obtain ⟨u, h1, h2⟩ := hM.cell hj
  have hn1 : s (.l m) = none := by rw [hag _ (kr_iff.2 (by simp))]; exact hn
  have ha1 : s (.l n') = some (.l true) := by rw [hag _ (kr_iff.2 (by simp))]; exact ha'
  have hB1 : s (.b n') = some (.b (.w false L)) := by rw [hag _ (kr_iff.2 (by simp))]; exact hB
  refine ⟨u, w, e.set m (e.id n') (e.bs n' + o') (e.rm n' - o'), ?_, Real.sub hR hm hn1 ha1 hB1 hL, fun _ => ?_, new_names rfl⟩
  · simp only [execOp, ex, Instr.loadAt, Instr.sureAddr, Sem.run_bind, Sem.run_pure, Result.andThen_ok, loadVar, run_row ht]
    simp [run_load, h1]
  · have hrep : Rep e (.g n' o' len lb z) u := h2.ok fun q hq => by
      simp only [C.names, List.mem_singleton] at hq; subst hq; exact ha1
    rcases hrep with ⟨k2, g1, g2, g3, g4, g5⟩ | ⟨g1, g2, x2, g3⟩
    · exact .inl ⟨k2, by rw [Env.set_id, Env.set_bs]; exact g1, g2, g2, g4, by rw [Env.set_rm]; omega⟩
    · exact .inr ⟨g1, g1, x2, g3⟩
/-- A slice is loaded out of a cell: what it covers gets a name of its own. -/
theorem eLoadSub1 [hF : WideLike F] (m : Nat) {L L' : List Value} {d : Tmp} {n o n' o' len lb z : Nat} {t : TypeId} {x : Operand} {b : B} {own : Bool} {l : List C} {rt : TypeId} {pos : String} {af : Array Edge} {g : Option (Nat × Bool)} {gk : List Key}
    (hr : RX c F nn id ops draw Q σ0 (i + 1) rest (upd σ ((.t d, .v (.c (.g m 0 len len z))) :: (.l m, .l true) :: (.b m, .b (.w false L')) :: [])) (⟨orR gk (kr (.l m :: .l n' :: .b n' :: .l n :: .b n :: opk x)), (.t d, .v (.c (.g m 0 len len z))) :: (.l m, .l true) :: (.b m, .b (.w false L')) :: []⟩ :: tr) sup)
    (hL : Sub L L' o')
    (hG : autoParam (GOk ops σ g gk) aGOK._auto_1) (hx : opv σ x = some (.c (.p n o)) := by rfl) (ha : σ (.l n) = some (.l true) := by rfl) (hb : σ (.b n) = some (.b b) := by rfl) (hl : b.cellsC = some (own, l) := by rfl) (ht : tRow c.P t = some false := by rfl) (hj : l[o]? = some (.g n' o' len lb z) := by rfl) (ha' : σ (.l n') = some (.l true) := by rfl) (hB : σ (.b n') = some (.b (.w false L)) := by rfl) (hm : autoParam (¬ c.gv m) aGVN._auto_1) (hn : σ (.l m) = none := by rfl) (hN : dOk c.N (some d) = true := by rfl) :
    RX c F nn id ops draw Q σ0 i (⟨some d, .load t x, rt, pos, af, g⟩ :: rest) σ tr sup := RX_o (t := ⟨kr (.l m :: .l n' :: .b n' :: .l n :: .b n :: opk x), (.t d, .v (.c (.g m 0 len len z))) :: (.l m, .l true) :: (.b m, .b (.w false L')) :: []⟩) hr hG (LocalO.loadSub1 hF hN hx ha hb hl ht hj hm hn ha' hB hL)
end
end Go.Proofs.Ytnmkpekfkfckoaa.EW
