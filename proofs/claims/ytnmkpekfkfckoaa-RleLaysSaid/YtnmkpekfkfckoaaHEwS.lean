import Derived.Test.YtnmkpekfkfckoaaHIm5
import Derived.Test.YtnmkpekfkfckoaaHEw7
import Derived.Test.YtnmkpekfkfckoaaHIm3
/- image: Check; the document's May. -/
/- image: Slot; the document's; sign. -/
/- image: slices.Clone of pixels. -/
/- More rules. No program in sight. -/
namespace Go.Proofs.Ytnmkpekfkfckoaa.EW
set_option linter.unusedSectionVars false
set_option linter.unusedSimpArgs false
set_option linter.unusedVariables false
open Go.RowKit EV
open SX (Wr Tv Qu Rm Sh Is conjP eqs)
variable {c : Ctx} {F : Fence} {nn : Nat} {id : Nat} {ops : Array Oper} {draw : Bool} {Q : Exit → Act → World → Prop} {σ0 σ s : Sf} {i : Nat} {rest : List Oper} {tr : List Tr} {sup : List Nat} {e : Env} {a : Act} {w : World}
/-- All bits turned. -/
theorem eInv [hF : WideLike F] {d : Tmp} {x : Operand} {k : IntKind} {a r : Int} {t : TypeId} {rt : TypeId} {pos : String} {af : Array Edge} {g : Option (Nat × Bool)} {gk : List Key}
    (hr : RX c F nn id ops draw Q σ0 (i + 1) rest (upd σ [(.t d, .v (.c (.v (.int k r))))]) (⟨orR gk (kr (opk x)), [(.t d, .v (.c (.v (.int k r))))]⟩ :: tr) sup)
    (hG : autoParam (GOk ops σ g gk) aGOK._auto_1) (hx : opv σ x = some (.c (.v (.int k a))) := by rfl) (hr' : Is (k.wrap ((BitVec.ofInt k.bits (if k.signed then -1 else k.max)) ^^^ BitVec.ofInt k.bits a).toNat) r := by exact ⟨rfl⟩) (hN : dOk c.N (some d) = true := by rfl) :
    RX c F nn id ops draw Q σ0 i (⟨some d, .unOp .xor t x, rt, pos, af, g⟩ :: rest) σ tr sup := RX_po hF hr hG hN rfl (PO.un hx (by simp only [unC, hr'.eq]))
end Go.Proofs.Ytnmkpekfkfckoaa.EW
/- Rules for texts: joined, cut, read at a place. No program in sight. -/
/- Walking over named blocks: a part of a block that came in gets a name of its own. No program in sight. -/
namespace Go.Proofs.Ytnmkpekfkfckoaa.EW
set_option linter.unusedSectionVars false
set_option linter.unusedSimpArgs false
set_option linter.unusedVariables false
open Go.RowKit EV
open SX (Is)
section
variable {c : Ctx} {F : Fence} {nn : Nat} {id : Nat} {ops : Array Oper} {draw : Bool} {Q : Exit → Act → World → Prop} {σ0 σ s : Sf} {i : Nat} {rest : List Oper} {tr : List Tr} {sup : List Nat} {e : Env} {a : Act} {w : World}
/-- What a part of a row holds. -/
structure Sub (L L' : List Value) (o : Nat) : Prop where
  len : o + L'.length ≤ L.length
  at_ : ∀ i x, L'[i]? = some x → L[o + i]? = some x
theorem Sub.of {L : List Value} {o p : Nat} (h : o + p ≤ L.length) : Sub L ((L.drop o).take p) o := by
  refine ⟨by rw [List.length_take, List.length_drop]; omega, fun i x hx => ?_⟩
  rw [List.getElem?_take] at hx
  split at hx
  · rwa [List.getElem?_drop] at hx
  · cases hx
theorem RealW.sub (h : RealW c s e w) {n m o : Nat} {L L' : List Value} (hm : ¬ c.gv m) (hn : s (.l m) = none) (ha : s (.l n) = some (.l true)) (hB : s (.b n) = some (.b (.w false L))) (hL : Sub L L' o) : RealW c (upd s (wsNew m (.w false L'))) (e.set m (e.id n) (e.bs n + o) (e.rm n - o)) w := by
  have hne : ∀ {k}, s (.l k) ≠ none → k ≠ m := fun hk => not_live hn hk
  have hmo : ∀ k, k ≠ m → Mo s e (upd s (wsNew m (.w false L'))) (e.set m (e.id n) (e.bs n + o) (e.rm n - o)) k := fun k hk => ⟨(wsNew_live hk).1, (Env.set_ne e hk).symm⟩
  have other : ∀ {j : Nat} {b' : B}, j ≠ m → upd s (wsNew m (.w false L')) (.l j) = some (.l true) → upd s (wsNew m (.w false L')) (.b j) = some (.b b') → s (.l j) = some (.l true) ∧ s (.b j) = some (.b b') := fun hj h1 h2 => by
    rw [wsNew_l, if_neg (fun e => hj e.symm)] at h1
    rw [wsNew_b, if_neg (fun e => hj e.symm)] at h2
    exact ⟨h1, h2⟩
  obtain ⟨hs1, hs2⟩ : MOk s e w n false (L.map C.v) := h.blk n _ ha hB
  rw [List.length_map] at hs1
  have hlen := hL.len
  refine ⟨fun k b' h1' h2 => ?_, fun k k' b1 b2 h1 h2 h3 h4 hkk ho => ?_, fun k b' h1 h2 ho => ?_, h.cl.new (fun k hk => by cases hk), fun k hk => (Env.set_ne e (fun he => hm (by rw [← he]; exact hk))).trans (h.given k hk), h.os, h.tape, h.output, h.size, h.old⟩
  · by_cases hk : k = m
    · subst hk; rw [wsNew_b, if_pos rfl] at h2; cases h2
      refine ⟨by rw [Env.set_rm, List.length_map]; omega, ?_⟩
      rw [Env.set_rm, Env.set_id, Env.set_bs]
      rcases hs2 with hs2 | ⟨cs, ty, fz, g1, _, g2, g3⟩
      · exact .inl (by omega)
      · refine .inr ⟨cs, ty, fz, g1, (fun h => by cases h), by omega, fun i x hx => ?_⟩
        rw [List.getElem?_map, Option.map_eq_some_iff] at hx
        obtain ⟨y, hy, rfl⟩ := hx
        obtain ⟨u, hu, hok⟩ := g3 (o + i) (.v y) (by rw [List.getElem?_map, hL.at_ i y hy]; rfl)
        exact ⟨u, by rw [Nat.add_assoc]; exact hu, hok.one, fun _ => hok.ok (fun n hn => by cases hn)⟩
    · obtain ⟨h1', h2'⟩ := other hk h1' h2
      exact (h.blk k b' h1' h2').mono (fun m hm => hmo m (hne (h.cl.1 _ _ h2' m hm))) (Env.set_ne e hk).symm (fun _ => rfl)
  · by_cases hk : k = m
    · subst hk; rw [wsNew_b, if_pos rfl] at h2; cases h2; cases ho
    · obtain ⟨h1', h2'⟩ := other hk h1 h2
      by_cases hk' : k' = m
      · subst hk'
        rw [(Env.set_ne e hk).rm, (Env.set_ne e hk).id, Env.set_rm, Env.set_id]
        have hkn : k ≠ n := fun he => by
          subst he; rw [hB] at h2'; cases h2'; cases ho
        rcases h.sep k n b1 _ h1' h2' ha hB hkn ho with g | g | g
        · exact .inl g
        · exact .inr (.inl (by omega))
        · exact .inr (.inr g)
      · obtain ⟨h3', h4'⟩ := other hk' h3 h4
        rw [(Env.set_ne e hk).rm, (Env.set_ne e hk).id, (Env.set_ne e hk').rm, (Env.set_ne e hk').id]
        exact h.sep k k' b1 b2 h1' h2' h3' h4' hkk ho
  · by_cases hk : k = m
    · subst hk; rw [wsNew_b, if_pos rfl] at h2; cases h2; cases ho
    · obtain ⟨h1', h2'⟩ := other hk h1 h2
      rw [(Env.set_ne e hk).rm, (Env.set_ne e hk).id]
      exact h.own k b' h1' h2' ho
theorem Real.sub (h : Real c s e a w) {n m o : Nat} {L L' : List Value} (hm : ¬ c.gv m) (hn : s (.l m) = none) (ha : s (.l n) = some (.l true)) (hB : s (.b n) = some (.b (.w false L))) (hL : Sub L L' o) : Real c (upd s (wsNew m (.w false L'))) (e.set m (e.id n) (e.bs n + o) (e.rm n - o)) a w :=
  h.withW (RealW.sub h.W hm hn ha hB hL) (fun i => wsNew_t) (fun k hk => ⟨(wsNew_live (not_live hn hk)).1, (Env.set_ne e (not_live hn hk)).symm⟩) (fun k hk => by
    have : k ≠ m := not_live hn (by rw [(h.fml k hk).1]; simp)
    rw [wsNew_l, wsNew_b, if_neg (fun e => this e.symm), if_neg (fun e => this e.symm)]; exact ⟨rfl, rfl⟩)
theorem LocalO.sub (hF : WideLike F) {d : Option Tmp} {op : Op} {n m o len cap z : Nat} {L L' : List Value} {ks : List Key} {rt : TypeId} {pos : String} {af : Array Edge} {g : Option (Nat × Bool)} (hN : dOk c.N d = true) (hd : (match op with | .defer _ => true | _ => false) = false) (h : PO c.P σ op (.c (.g n o len cap z)) ks) (hm : ¬ c.gv m) (hn : σ (.l m) = none) (ha : σ (.l n) = some (.l true)) (hB : σ (.b n) = some (.b (.w false L))) (hL : Sub L L' o) :
    LocalO c F nn ⟨d, op, rt, pos, af, g⟩ σ ⟨kr (.l m :: .l n :: .b n :: ks), putW d (.c (.g m 0 len len z)) ++ wsNew m (.w false L')⟩ := by
  refine LocalO.act hF hN (noDefer hd) fun s e a w hag hR => ?_
  obtain ⟨u, hrun, hok, _⟩ := h.sound (d := d) (rt := rt) (pos := pos) (af := af) (g := g) (fun q hq => hag q (kr_iff.2 (by simp [hq]))) hR
  have hn' : s (.l m) = none := by rw [hag _ (kr_iff.2 (by simp))]; exact hn
  have ha' : s (.l n) = some (.l true) := by rw [hag _ (kr_iff.2 (by simp))]; exact ha
  have hB' : s (.b n) = some (.b (.w false L)) := by rw [hag _ (kr_iff.2 (by simp))]; exact hB
  have hrep : Rep e (.g n o len cap z) u := hok fun k hk => by
    simp only [C.names, List.mem_singleton] at hk; subst hk; exact ha'
  refine ⟨u, w, e.set m (e.id n) (e.bs n + o) (e.rm n - o), hrun, Real.sub hR hm hn' ha' hB' hL, fun _ => ?_, new_names rfl⟩
  rcases hrep with ⟨k, g1, g2, g3, g4, g5⟩ | ⟨g1, g2, x, g3⟩
  · exact .inl ⟨k, by rw [Env.set_id, Env.set_bs]; exact g1, g2, g2, g4, by rw [Env.set_rm]; omega⟩
  · exact .inr ⟨g1, g1, x, g3⟩
/-- A slice of a block that came in: what it covers gets a name. -/
theorem eSliceSub [hF : WideLike F] (m : Nat) {L L' : List Value} {d : Tmp} {x : Operand} {n o len lb z l h o' len' q : Nat} {lo hi : Option Operand} {lo' hi' : Option Int} {t el : TypeId} {k1 k2 : List Key} {rt : TypeId} {pos : String} {af : Array Edge} {g : Option (Nat × Bool)} {gk : List Key}
    (hr : RX c F nn id ops draw Q σ0 (i + 1) rest (upd σ ((.t d, .v (.c (.g m 0 len' len' z))) :: (.l m, .l true) :: (.b m, .b (.w false L')) :: [])) (⟨orR gk (kr (.l m :: .l n :: .b n :: (.l n :: (opk x ++ (k1 ++ k2))))), (.t d, .v (.c (.g m 0 len' len' z))) :: (.l m, .l true) :: (.b m, .b (.w false L')) :: []⟩ :: tr) sup)
    (hL : Sub L L' o')
    (hG : autoParam (GOk ops σ g gk) aGOK._auto_1) (hx : opv σ x = some (.c (.g n o len lb z)) := by rfl) (ha : σ (.l n) = some (.l true) := by rfl) (hB : σ (.b n) = some (.b (.w false L)) := by rfl) (h1 : autoParam (OptI σ lo lo' k1) aOPT._auto_1) (h2 : autoParam (OptI σ hi hi' k2) aOPT._auto_1) (hu : c.P.underlying t = some (.slice el) := by rfl) (hs : tS c.P el = some z := by rfl) (hq : autoParam (Is (max len lb) q) aOFF._auto_1) (hb : autoParam (bnd len q lo' hi' none l h q) aBDS._auto_1) (hlh : autoParam (l ≤ h) aLEN._auto_1) (e1 : autoParam (Is (o + l * z) o') aOFF._auto_1) (e2 : autoParam (Is (h - l) len') aOFF._auto_1) (hm : autoParam (¬ c.gv m) aGVN._auto_1) (hn : σ (.l m) = none := by rfl) (hN : dOk c.N (some d) = true := by rfl) :
    RX c F nn id ops draw Q σ0 i (⟨some d, .slice t x lo hi none, rt, pos, af, g⟩ :: rest) σ tr sup := RX_o (t := ⟨kr (.l m :: .l n :: .b n :: (.l n :: (opk x ++ (k1 ++ k2)))), (.t d, .v (.c (.g m 0 len' len' z))) :: (.l m, .l true) :: (.b m, .b (.w false L')) :: []⟩) hr hG (LocalO.sub (cap := q - l) hF hN rfl (e1.eq ▸ e2.eq ▸ hq.eq ▸ PO.sliceG hx ha h1 h2 hu hs (hq.eq.symm ▸ hb) hlh) hm hn ha hB hL)
end
end Go.Proofs.Ytnmkpekfkfckoaa.EW
