/- States by names: a call as an operation among others. No program in sight. -/
import Derived.Test.YtbjogekhedglgaaEvF
namespace Go.Proofs.Ytbjogekhedglgaa.EV
open Go.RowKit

/-- What a call reads: what it is handed, and the blocks that are not hidden from it. -/
def rdCall (ks : List Key) (X : Nat → Bool) (hi : Nat) : Key → Bool := fun q => kr ks q || (match q with
  | .l n => !X n && Nat.blt n hi
  | .b n => !X n && Nat.blt n hi
  | .t _ => false)
section
variable {c : Ctx} {F : Fence} {nn : Nat} {σ s : Sf} {e : Env} {a : Act} {w w' : World} {Q : Exit → Act → World → Prop}
theorem Vals.to {xs : List Operand} {vs : List V} {ks : List Key} (h : Vals σ xs vs ks) (hag : ∀ q ∈ ks, s q = σ q) : Vals s xs vs ks := by
  induction h with
  | nil => exact .nil
  | @cons x v xs l ks hx h ih => exact .cons (by rw [opv_agree fun q hq => hag q (by simp [hq])]; exact hx) (ih fun q hq => hag q (by simp [hq]))
theorem Vals.al {xs : List Operand} {vs : List V} {ks : List Key} (h : Vals σ xs vs ks) (hc : Cl σ) : ∀ v ∈ vs, ∀ n ∈ v.names, σ (.l n) ≠ none := by
  induction h with
  | nil => intro v hv; cases hv
  | @cons x v xs l ks hx h ih =>
    intro y hy
    rcases List.mem_cons.1 hy with rfl | hy
    · exact opv_names hx hc
    · exact ih y hy
theorem LocalO.call (hF : WideLike F) {f : FuncId} {ca : List (Nat × Nat)} {x : Operand} {xs : List Operand} {vs : List V} {ks : List Key} {tys : Array TypeId} {lo hi : Nat} {v : V} {h' : Sf} {X : Nat → Bool} {ws : Ws} {d : Option Tmp} {rt : TypeId} {pos : String} {af : Array Edge} {g : Option (Nat × Bool)}
    (he : ∀ args w, (callFunc f args).run c.P w = .ok (.enter f args) w) (hx : opv σ x = some (.c (.f f ca))) (hca : ∀ q ∈ ca, σ (.l q.1) = some (.l true) ∧ X q.1 = false) (hv : Vals σ xs vs ks) (hN : dOk c.N d = true)
    (hct : CT c.P f (vs ++ capV ca) (mask σ X) lo hi v h') (hC : CallOk c σ X lo hi v h' ws) :
    LocalO c F nn ⟨d, .call ⟨.value x, xs.toArray, tys⟩, rt, pos, af, g⟩ σ ⟨rdCall (opk x ++ ks) X hi, putW d v ++ ws⟩ := by
  intro hcl Q s e a w K hag hR hK
  have hk : ∀ q ∈ opk x ++ ks, s q = σ q := fun q hq => hag q (by simp only [rdCall, kr_iff.2 hq, Bool.true_or])
  have hnm : ∀ n, n < hi → X n = false → s (.l n) = σ (.l n) ∧ s (.b n) = σ (.b n) := fun n h1 h2 => by
    have h3 : Nat.blt n hi = true := by simpa using h1
    exact ⟨hag _ (by simp [rdCall, h2, h3]), hag _ (by simp [rdCall, h2, h3])⟩
  have hlt : ∀ n, σ (.l n) ≠ none → n < hi := fun n hn => by
    rcases Nat.lt_or_ge n hi with h | h
    · exact h
    · exact absurd (hC.fr n (Nat.le_trans hC.le h)) hn
  have hca' : ∀ q ∈ ca, s (.l q.1) = some (.l true) := fun q hq => by
    obtain ⟨h1, h2⟩ := hca q hq
    rw [(hnm q.1 (hlt q.1 (by rw [h1]; simp)) h2).1]; exact h1
  have hx' : opv s x = some (.c (.f f ca)) := by rw [opv_agree fun q hq => hk q (by simp [hq])]; exact hx
  have ex := eval_f hx' hca' hR
  have hv' : Vals s xs vs ks := hv.to fun q hq => hk q (by simp [hq])
  obtain ⟨g1, _⟩ := hv'.ok hR
  obtain ⟨c3, hP, hgv, hM, hback⟩ := hR.called hcl hC hnm
  obtain ⟨_, hlv⟩ := hR.W.mask hcl (X := X) hnm (fun n hn => hC.fr n (Nat.le_trans hC.le hn))
  refine ⟨fun f _ => hF.fn f, ?_⟩
  rw [Oper.semAt_eq _ _ _ (noDefer rfl)]
  simp only [execOp, resolve, ex, invoke, Deferred.ofValue, List.map_toArray, Sem.run_bind, Sem.run_pure, Result.andThen_ok]
  simp only [List.append_toArray, List.nil_append, he, Oper.uponIn]
  have hargs : OkVs (mask σ X) e (vs ++ capV ca) (xs.map a.eval ++ capU e ca) := OkVs.append (OkVs.mono (s := s) (s' := mask σ X) (fun v _ n _ => ⟨fun h => (hlv n h).1, .rfl⟩) g1) (caps_ok ca)
  have hnames : ∀ v ∈ vs ++ capV ca, ∀ n ∈ v.names, mask σ X (.l n) ≠ none := fun v hv2 n hn => by
    rcases List.mem_append.1 hv2 with hv2 | hv2
    · exact mask_ne (hv.al hcl v hv2 n hn)
    · obtain ⟨q, hq, rfl⟩ := capV_names hv2 hn
      exact mask_ne (by rw [(hca q hq).1]; simp)
  refine ⟨fun h => absurd h (by rw [hF.depth]; simp), hF.calls ((hct c3 e w _ hP hgv hM hargs hnames).mono ?_)⟩
  rintro en w' ⟨u, e', rfl, hW', hu, hun⟩
  obtain ⟨r1, r2, r3⟩ := hback u e' w' hW' hu hun
  refine hK e' _ _ ?_
  have := r1.putW (dst := d) hN r2 r3
  rw [← upd_append] at this
  exact this
/-- A call that the model carries out here and now, of plain values: several plain results. -/
theorem LocalO.ext (hF : WideLike F) {f : FuncId} {x : Operand} {xs : List Operand} {L Z : List Value} {ks : List Key} {tys : Array TypeId} {d : Option Tmp} {rt : TypeId} {pos : String} {af : Array Edge} {g : Option (Nat × Bool)}
    (hN : dOk c.N d = true) (hx : opv σ x = some (.c (.f f []))) (hv : Vals σ xs (L.map fun X => V.c (.v X)) ks) (hr : ∀ w, (callFunc f L.toArray).run c.P w = .ok (.value (.tuple Z.toArray)) w) :
    LocalO c F nn ⟨d, .call ⟨.value x, xs.toArray, tys⟩, rt, pos, af, g⟩ σ ⟨kr (opk x ++ ks), putW d (.t (Z.map fun X => .inl (.v X)))⟩ := by
  refine LocalO.val hF hN (noDefer rfl) fun s e a w hag hR => ⟨.tuple Z.toArray, ?_, ⟨Z, rfl, ?_⟩, fun n hn => ?_⟩
  · have hx' : opv s x = some (.c (.f f [])) := by rw [opv_agree fun q hq => hag q (kr_iff.2 (by simp [hq]))]; exact hx
    have ex : a.eval x = .func (.func f) #[] #[] := eval_f hx' (fun q hq => by cases hq) hR
    have hl := hv.agree (fun q hq => hag q (kr_iff.2 (by simp [hq]))) hR
    simp only [execOp, resolve, ex, invoke, Deferred.ofValue, List.map_toArray, Sem.run_bind, Sem.run_pure, Result.andThen_ok, hl]
    simp only [List.append_toArray, List.nil_append, List.append_nil, hr]
  · clear hr hv
    induction Z with
    | nil => rfl
    | cons z Z ih => exact ⟨z, Z, rfl, Ok.of, ih⟩
  · have : (V.t (Z.map fun X => .inl (.v X))).names = [] := by
      clear hr hv
      induction Z with
      | nil => rfl
      | cons z Z ih => simp [V.names, namesP, C.names]
    rw [this] at hn; cases hn
end
end Go.Proofs.Ytbjogekhedglgaa.EV
