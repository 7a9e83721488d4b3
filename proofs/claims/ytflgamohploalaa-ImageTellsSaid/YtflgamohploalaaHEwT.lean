/- Walking over named blocks: a part with three bounds of a block that came in gets a name of its own. No program in sight. -/
import Derived.Test.YtflgamohploalaaHEwS
namespace Go.Proofs.Ytflgamohploalaa.EW
set_option linter.unusedSimpArgs false
set_option linter.unusedVariables false
open Go.RowKit EV
open SX (Is)
section
variable {c : Ctx} {F : Fence} {nn : Nat} {id : Nat} {ops : Array Oper} {draw : Bool} {Q : Exit → Act → World → Prop} {σ0 σ s : Sf} {i : Nat} {rest : List Oper} {tr : List Tr} {sup : List Nat} {e : Env} {a : Act} {w : World}
theorem LocalO.sub3 (hF : WideLike F) {d : Option Tmp} {op : Op} {n m o len cap z : Nat} {L L' : List Value} {ks : List Key} {rt : TypeId} {pos : String} {af : Array Edge} {g : Option (Nat × Bool)} (hN : dOk c.N d = true) (hd : (match op with | .defer _ => true | _ => false) = false) (h : PO c.P σ op (.c (.s n o len cap)) ks) (hm : ¬ c.gv m) (hn : σ (.l m) = none) (ha : σ (.l n) = some (.l true)) (hB : σ (.b n) = some (.b (.w false L))) (hL : Sub L L' o) (hc : len ≤ cap) (hx : cap ≤ maxLen) (hk : o + cap * z ≤ L.length) :
    LocalO c F nn ⟨d, op, rt, pos, af, g⟩ σ ⟨kr (.l m :: .l n :: .b n :: ks), putW d (.c (.g m 0 len len z)) ++ wsNew m (.w false L')⟩ := by
  refine LocalO.act hF hN (noDefer hd) fun s e a w hag hR => ?_
  obtain ⟨u, hrun, hok, _⟩ := h.sound (d := d) (rt := rt) (pos := pos) (af := af) (g := g) (fun q hq => hag q (kr_iff.2 (by simp [hq]))) hR
  have hn' : s (.l m) = none := by rw [hag _ (kr_iff.2 (by simp))]; exact hn
  have ha' : s (.l n) = some (.l true) := by rw [hag _ (kr_iff.2 (by simp))]; exact ha
  have hB' : s (.b n) = some (.b (.w false L)) := by rw [hag _ (kr_iff.2 (by simp))]; exact hB
  obtain ⟨hs1, _⟩ : MOk s e w n false (L.map C.v) := hR.W.blk n _ ha' hB'
  rw [List.length_map] at hs1
  have hrep : Rep e (.s n o len cap) u := hok fun k hk => by
    simp only [C.names, List.mem_singleton] at hk; subst hk; exact ha'
  refine ⟨u, w, e.set m (e.id n) (e.bs n + o) (e.rm n - o), hrun, Real.sub hR hm hn' ha' hB' hL, fun _ => ?_, new_names rfl⟩
  rcases hrep with g1 | ⟨g1, g2, x, g3⟩
  · exact .inl ⟨cap, by rw [Env.set_id, Env.set_bs]; exact g1, hc, hc, hx, by rw [Env.set_rm]; omega⟩
  · exact .inr ⟨g1, g1, x, g3⟩
/-- A slice with three bounds of a block that came in: what it covers gets a name. -/
theorem eSliceSub3 [hF : WideLike F] (m' : Nat) {L L' : List Value} {d : Tmp} {x z0 : Operand} {n o len lb z l h m o' len' cap' q : Nat} {lo hi : Option Operand} {lo' hi' mx' : Option Int} {t el : TypeId} {k1 k2 k3 : List Key} {rt : TypeId} {pos : String} {af : Array Edge} {g : Option (Nat × Bool)} {gk : List Key}
    (hr : RX c F nn id ops draw Q σ0 (i + 1) rest (upd σ ((.t d, .v (.c (.g m' 0 len' len' z))) :: (.l m', .l true) :: (.b m', .b (.w false L')) :: [])) (⟨orR gk (kr (.l m' :: .l n :: .b n :: (.l n :: (opk x ++ (k1 ++ (k2 ++ k3)))))), (.t d, .v (.c (.g m' 0 len' len' z))) :: (.l m', .l true) :: (.b m', .b (.w false L')) :: []⟩ :: tr) sup)
    (hL : Sub L L' o')
    (hG : autoParam (GOk ops σ g gk) aGOK._auto_1) (hx : opv σ x = some (.c (.g n o len lb z)) := by rfl) (ha : σ (.l n) = some (.l true) := by rfl) (hB : σ (.b n) = some (.b (.w false L)) := by rfl) (h1 : autoParam (OptI σ lo lo' k1) aOPT._auto_1) (h2 : autoParam (OptI σ hi hi' k2) aOPT._auto_1) (h3 : autoParam (OptI σ (some z0) mx' k3) aOPT._auto_1) (hu : c.P.underlying t = some (.slice el) := by rfl) (hs : tS c.P el = some z := by rfl) (hq : autoParam (Is (max len lb) q) aOFF._auto_1) (hb : autoParam (bnd len q lo' hi' mx' l h m) aBDS._auto_1) (hlh : autoParam (l ≤ h) aLEN._auto_1) (hhm : autoParam (h ≤ m) aLEN._auto_1) (e1 : autoParam (Is (o + l * z) o') aOFF._auto_1) (e2 : autoParam (Is (h - l) len') aOFF._auto_1) (e3 : autoParam (Is (m - l) cap') aOFF._auto_1) (hm : autoParam (¬ c.gv m') aGVN._auto_1) (hn : σ (.l m') = none := by rfl) (hN : dOk c.N (some d) = true := by rfl) (hk : autoParam (o' + cap' * z ≤ L.length) aLENV._auto_1) (hx' : autoParam (cap' ≤ 140737488355328) aLEN._auto_1) :
    RX c F nn id ops draw Q σ0 i (⟨some d, .slice t x lo hi (some z0), rt, pos, af, g⟩ :: rest) σ tr sup := RX_o (t := ⟨kr (.l m' :: .l n :: .b n :: (.l n :: (opk x ++ (k1 ++ (k2 ++ k3))))), (.t d, .v (.c (.g m' 0 len' len' z))) :: (.l m', .l true) :: (.b m', .b (.w false L')) :: []⟩) hr hG (LocalO.sub3 hF hN rfl (e1.eq ▸ e2.eq ▸ e3.eq ▸ PO.sliceG3 hx ha h1 h2 h3 hu hs (hq.eq.symm ▸ hb) hlh hhm) hm hn ha hB hL (by have := e2.eq; have := e3.eq; omega) (Nat.le_trans hx' (by decide)) hk)
end
end Go.Proofs.Ytflgamohploalaa.EW
