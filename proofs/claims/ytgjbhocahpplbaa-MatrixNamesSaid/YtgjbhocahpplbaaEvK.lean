/- The reckoner of operations that lay or change blocks is sound. No program in sight. -/
import Derived.Test.YtgjbhocahpplbaaEvJ
namespace Go.Proofs.Ytgjbhocahpplbaa.EV
noncomputable section
open Go.RowKit

section
variable {c : Ctx} {F : Fence} {nn : Nat} {s : Sf} {P : Program} {m : Nat} {d : Option Tmp} {rt : TypeId} {pos : String} {af : Array Edge} {g : Option (Nat × Bool)} {v : V} {eff : Eff} {ks : List Key}
theorem evalP_LocalO (hP : c.P = P) (hF : WideLike F) (hN : dOk c.N d = true) {op : Op} (h : evalP P s op = some (v, ks)) : LocalO c F nn ⟨d, op, rt, pos, af, g⟩ s ⟨kr ks, putW d v ++ Eff.no.ws m⟩ := by
  subst hP
  have h1 := evalP_ok h
  simp only [Eff.ws, List.append_nil]
  exact LocalO.val hF hN (fun q hq => by
    have hq : op = .defer q := hq
    subst hq; cases h) fun s' e a w hag hR => h1.sound (fun q hq => hag q (kr_iff.2 hq)) hR
theorem ws0 (m : Nat) {d : Option Tmp} {v : V} : putW d v ++ Eff.no.ws m = putW d v := by simp [Eff.ws]
theorem evalM_mem (hP : c.P = P) (hF : WideLike F) (hN : dOk c.N d = true) (hm : eff.fresh = true → ¬ c.gv m) (hn : s (.l m) = none) {op : Op}
    (hop : (∃ t x, op = .load t x) ∨ (∃ t x y, op = .store t x y) ∨ (∃ t, op = .alloc t) ∨ (∃ t x, op = .box t x) ∨ (∃ t ps, op = .build t ps) ∨ (∃ t n ps, op = .buildSlice t n ps) ∨ ∃ t x y, op = .makeSlice t x y)
    (h : evalM P s m d op = some (v, eff, ks)) : LocalO c F nn ⟨d, op, rt, pos, af, g⟩ s ⟨kr ks, putW d v ++ eff.ws m⟩ := by
  subst hP
  rcases hop with ⟨t, x, rfl⟩ | ⟨t, x, y, rfl⟩ | ⟨t, rfl⟩ | ⟨t, x, rfl⟩ | ⟨t, ps, rfl⟩ | ⟨t, n, ps, rfl⟩ | ⟨t, x, y, rfl⟩
  · simp only [evalM, eM_load] at h
    split at h
    · rename_i hx
      split at h
      · rename_i hl ht
        split at h
        · rename_i hz; cases h; obtain ⟨b, h1, h2, h3⟩ := cl_ok hl; rw [ws0]; exact LocalO.load1 hF hN hx h1 h2 h3 ht hz
        · cases h
      · rename_i hl ht
        split at h
        · rename_i hk
          split at h
          · rename_i hle; cases h; obtain ⟨b, h1, h2, h3⟩ := cl_ok hl; rw [ws0]; exact LocalO.loadA hF hN hx h1 h2 h3 ht hk hle
          · cases h
        · cases h
      · cases h
    · cases h
  · simp only [evalM, eM_store] at h
    split at h
    · rename_i hx hy
      split at h
      · rename_i hb hv hk
        split at h
        · rename_i hs
          split at h
          · rename_i hq
            cases h
            obtain ⟨h1, h2⟩ := bl_ok hb
            obtain ⟨l, h3, h4, h5⟩ := storeB_ok hs
            exact LocalO.store hF hx h1 h2 h3 hy (cvE_ok hv) (by rw [hk, hq.1]) h5 hq.2 h4
          · cases h
        · cases h
      · cases h
    · cases h
  · simp only [evalM, eM_alloc] at h
    split at h
    · rename_i hz; cases h; exact LocalO.alloc hF hN hz (hm rfl) hn
    · cases h
  · simp only [evalM, eM_box] at h
    split at h
    · rename_i hx
      split at h
      · rename_i hl; cases h; exact LocalO.box hF hN hx (cvE_ok hl) (hm rfl) hn
      · cases h
    · cases h
  · simp only [evalM, eM_build] at h
    split at h
    · rename_i hb hp
      split at h
      · rename_i hf
        cases h
        rw [ws0]
        have := LocalO.build (nn := nn) (rt := rt) (pos := pos) (af := af) (g := g) hF hN hb (partsE_ok hp) hf
        rwa [Array.toArray_toList] at this
      · cases h
    · cases h
  · simp only [evalM, eM_buildSlice] at h
    split at h
    · rename_i ht hp
      split at h
      · rename_i hz hk
        split at h
        · rename_i hf
          split at h
          · rename_i hq
            cases h
            have := LocalO.buildSlice (nn := nn) (rt := rt) (pos := pos) (af := af) (g := g) hF hN ht hz hk hq.1 hq.2.1 hq.2.2 (partsE_ok hp) hf (hm rfl) hn
            rwa [Array.toArray_toList] at this
          · cases h
        · cases h
      · cases h
    · cases h
  · simp only [evalM, eM_makeSlice] at h
    split at h
    · rename_i hx hy ht
      split at h
      · rename_i hz hk hi
        split at h
        · rename_i hq
          cases h
          exact LocalO.makeSlice hF hN hx hy ht hz hk hq.1 hq.2.1 (by rw [hi]; rfl) hq.2.2 (hm rfl) hn
        · cases h
      · cases h
    · cases h
theorem evalM_conv (hP : c.P = P) (hF : WideLike F) (hN : dOk c.N d = true) (hm : eff.fresh = true → ¬ c.gv m) (hn : s (.l m) = none) {src dst : TypeId} {x : Operand}
    (h : evalM P s m d (.convert src dst x) = some (v, eff, ks)) : LocalO c F nn ⟨d, .convert src dst x, rt, pos, af, g⟩ s ⟨kr ks, putW d v ++ eff.ws m⟩ := by
  subst hP
  simp only [evalM, eM_convert] at h
  split at h
  · rename_i hp; cases h; exact evalP_LocalO rfl hF hN hp
  · split at h
    · rename_i hx hs hd
      split at h
      · rename_i he; cases h; rw [ws0]; exact LocalO.textN hF hN hx hs he hd
      · cases h
    · rename_i hx hs hd
      split at h
      · rename_i he
        split at h
        · rename_i hle; cases h; exact LocalO.bytes hF hN hx rfl rfl hle (hm rfl) hn hs hd he
        · cases h
      · cases h
    · rename_i hx hs hd
      split at h
      · rename_i hsd he hb
        obtain rfl := Nat.eq_of_beq_eq_true hsd
        split at h
        · rename_i hl
          split at h
          · rename_i h0
            cases h
            obtain ⟨h1, h2⟩ := bl_ok hb
            exact LocalO.bmark hF hN hx h1 h2 hl (by simp) h0 hd he
          · cases h
        · cases h
      · cases h
    · rename_i hx hs hd
      split at h
      · rename_i he hsl
        split at h
        · rename_i hl
          split at h
          · rename_i hbs
            split at h
            · rename_i hle
              cases h
              obtain ⟨y, rfl, hy⟩ := sl_ok hsl
              obtain ⟨b, h1, h2, h3⟩ := cl_ok hl
              rw [ws0]; exact LocalO.text hF hN hx hy h1 h2 h3 hle (bytesL_ok hbs) hs he hd
            · cases h
          · cases h
        · cases h
      · cases h
    · cases h
theorem arr2 {α : Type} {x : Array α} {y z : α} (h : x.toList = [y, z]) : x = #[y, z] := by cases x; simp at h; subst h; rfl
theorem evalM_append (hP : c.P = P) (hF : WideLike F) (hN : dOk c.N d = true) (hm : eff.fresh = true → ¬ c.gv m) (hn : s (.l m) = none) {xs : Array Operand} {ts : Array TypeId}
    (h : evalM P s m d (.call ⟨.builtin .append, xs, ts⟩) = some (v, eff, ks)) : LocalO c F nn ⟨d, .call ⟨.builtin .append, xs, ts⟩, rt, pos, af, g⟩ s ⟨kr ks, putW d v ++ eff.ws m⟩ := by
  subst hP
  simp only [evalM, eM_call, eM_append] at h
  split at h
  · rename_i x y t t2 hxs hts
    obtain rfl := arr2 hxs
    obtain rfl := arr2 hts
    split at h
    · rename_i el z by' ha
      obtain ⟨i, zv, hT⟩ := appE_ok ha
      split at h
      · rename_i hs hx
        split at h
        · rename_i hl
          split at h
          · rename_i hq
            cases h
            obtain ⟨b, h1, h2, h3⟩ := cl_ok hl
            obtain ⟨rfl, hq1, hq2, hq3⟩ := hq
            exact LocalO.appendG hF hN hx h1 h2 h3 hq1 (srcE_ok hs) (hT _ ⟨hq2, hq3⟩) (hm rfl) hn rfl
          · cases h
        · cases h
      · rename_i hs hx
        split at h
        · split at h
          · rename_i hq
            cases h
            exact LocalO.appendZ hF hN hx (lv_eq hq.1) (srcE_ok hs) (hT _ ⟨hq.2.1, hq.2.2⟩) (hm rfl) hn rfl
          · cases h
        · split at h
          · rename_i hl
            split at h
            · rename_i hq
              cases h
              obtain ⟨b, h1, h2, h3⟩ := cl_ok hl
              exact LocalO.appendS hF hN hx h1 h2 h3 hq.1 hq.2.1 hq.2.2.1 (srcE_ok hs) (hT _ ⟨hq.2.2.2.1, hq.2.2.2.2⟩) (hm rfl) hn rfl
            · cases h
          · cases h
      · rename_i hs hx
        split at h
        · rename_i hq
          cases h
          exact LocalO.appendN hF hN hx (srcE_ok hs) (hT _ ⟨hq.1, hq.2⟩) (hm rfl) hn rfl
        · cases h
      · cases h
    · cases h
  · cases h
theorem evalM_copy (hP : c.P = P) (hF : WideLike F) (hN : dOk c.N d = true) {xs : Array Operand} {ts : Array TypeId}
    (h : evalM P s m d (.call ⟨.builtin .copy, xs, ts⟩) = some (v, eff, ks)) : LocalO c F nn ⟨d, .call ⟨.builtin .copy, xs, ts⟩, rt, pos, af, g⟩ s ⟨kr ks, putW d v ++ eff.ws m⟩ := by
  subst hP
  simp only [evalM, eM_call, eM_copy] at h
  split at h
  · rename_i x y t t2 hxs hts
    obtain rfl := arr2 hxs
    obtain rfl := arr2 hts
    split at h
    · rename_i el ht
      split at h
      · rename_i z v1 v2 hz hx hy
        split at h
        · split at h
          · rename_i n o len h1
            split at h
            · rename_i b hb
              split at h
              · rename_i b' hs
                cases h
                obtain ⟨y1, rfl, hy1⟩ := sl_ok h1
                obtain ⟨k1, k2⟩ := bl_ok hb
                obtain ⟨l, g4, g5, g6⟩ := storeB_ok hs
                exact LocalO.copy hF hN hx hy1 k1 k2 g4 (by simp) (srcN_nil hy) (by simp) (by simpa using g6) ht hz g5
              · cases h
            · cases h
          · cases h
        split at h
        · rename_i n o len n2 o2 k h1 h2
          split at h
          · rename_i b own2 l2 hb hl2
            split at h
            · rename_i b' hs
              split at h
              · rename_i hle
                cases h
                obtain ⟨y1, rfl, hy1⟩ := sl_ok h1
                obtain ⟨y2, rfl, hy2⟩ := sl_ok h2
                obtain ⟨b2, g1, g2, g3⟩ := cl_ok hl2
                obtain ⟨k1, k2⟩ := bl_ok hb
                obtain ⟨l, g4, g5, g6⟩ := storeB_ok hs
                have hmin : Nat.min k len ≤ k := Nat.min_le_left _ _
                have hvl : (List.take (Nat.min k len * z) (List.drop o2 l2)).length = Nat.min k len * z := by
                  rw [List.length_take, List.length_drop]; omega
                exact LocalO.copy hF hN hx hy1 k1 k2 g4 rfl (srcN_named hy hy2 g1 g2 g3 hmin hle) hvl (by rw [hvl] at g6; exact g6) ht hz g5
              · cases h
            · cases h
          · cases h
        · cases h
      · cases h
    · cases h
  · cases h
theorem evalM_ok (hP : c.P = P) (hF : WideLike F) (hN : dOk c.N d = true) (hm : eff.fresh = true → ¬ c.gv m) (hn : s (.l m) = none) {op : Op}
    (h : evalM P s m d op = some (v, eff, ks)) : LocalO c F nn ⟨d, op, rt, pos, af, g⟩ s ⟨kr ks, putW d v ++ eff.ws m⟩ := by
  have pure' : (match evalP P s op with | some (v, ks) => some (v, Eff.no, ks) | none => none) = some (v, eff, ks) → LocalO c F nn ⟨d, op, rt, pos, af, g⟩ s ⟨kr ks, putW d v ++ eff.ws m⟩ := fun h => by
    split at h
    · rename_i hp; cases h; exact evalP_LocalO hP hF hN hp
    · cases h
  cases op with
  | load t x => exact evalM_mem hP hF hN hm hn (by simp) h
  | store t x y => exact evalM_mem hP hF hN hm hn (by simp) h
  | alloc t => exact evalM_mem hP hF hN hm hn (by simp) h
  | box t x => exact evalM_mem hP hF hN hm hn (by simp) h
  | build t ps => exact evalM_mem hP hF hN hm hn (by simp) h
  | buildSlice t n ps => exact evalM_mem hP hF hN hm hn (by simp) h
  | makeSlice t x y => exact evalM_mem hP hF hN hm hn (by simp) h
  | convert src dst x => exact evalM_conv hP hF hN hm hn h
  | call q =>
    obtain ⟨cal, xs, ts⟩ := q
    cases cal with
    | builtin b =>
      cases b with
      | append => exact evalM_append hP hF hN hm hn h
      | copy => exact evalM_copy hP hF hN h
      | _ => exact pure' h
    | _ => exact pure' h
  | _ => exact pure' h
end
end
end Go.Proofs.Ytgjbhocahpplbaa.EV
