/- The reckoner of operations that lay or change blocks is sound. No program in sight. A state as trees; what operations make of it. No program in sight. Calls, reckoned. No program in sight. Rounds, reckoned. No program in sight. Regions, code, functions, reckoned. No program in sight. Code and functions, reckoned: the whole. No program in sight. Calls of functions of no arguments, reckoned. -/
import Derived.Test.YtafhojmnbpegpaaGreatHZB
import Derived.Test.YtafhojmnbpegpaaGreatRows
namespace Go.Proofs.YtafhojmnbpegpaaGreat.EV
set_option linter.unusedSectionVars false
noncomputable section
open Go.RowKit
section
variable {c : Ctx} {F : Fence} {nn : Nat} {s : Sf} {P : Program} {m : Nat} {d : Option Tmp} {rt : TypeId} {pos : String} {af : Array Edge} {g : Option (Nat × Bool)} {v : V} {eff : Eff} {ks : List Key}
theorem evalP_LocalO (hP : c.P = P) (hF : WideLike F) (hN : dOk c.N d = true) {op : Op} (h : evalP P s op = some (v, ks)) : LocalO c F nn ⟨d, op, rt, pos, af, g⟩ s ⟨kr ks, putW d v ++ Eff.no.ws m⟩ := by
  subst hP
  have h1 := evalP_ok h
  simp only [Eff.ws, List.append_nil]
  exact LocalO.val hF hN (fun q hq => by
    have hq : op = .defer q := hq
    subst hq; cases h) fun s' e a w hag hR => h1.sound (fun q hq => hag q (kr_iff.2 hq)) hR
theorem ws0 (m : Nat) {d : Option Tmp} {v : V} : putW d v ++ Eff.no.ws m = putW d v := by simp [Eff.ws]
theorem evalM_mem (hP : c.P = P) (hF : WideLike F) (hN : dOk c.N d = true) (hm : eff.fresh = true → ¬ c.gv m) (hn : s (.l m) = none) {op : Op}
    (hop : (∃ t x, op = .load t x) ∨ (∃ t x y, op = .store t x y) ∨ (∃ t, op = .alloc t) ∨ (∃ t x, op = .box t x) ∨ (∃ t ps, op = .build t ps) ∨ (∃ t n ps, op = .buildSlice t n ps) ∨ ∃ t x y, op = .makeSlice t x y)
    (h : evalM P s m d op = some (v, eff, ks)) : LocalO c F nn ⟨d, op, rt, pos, af, g⟩ s ⟨kr ks, putW d v ++ eff.ws m⟩ := by
  subst hP
  rcases hop with ⟨t, x, rfl⟩ | ⟨t, x, y, rfl⟩ | ⟨t, rfl⟩ | ⟨t, x, rfl⟩ | ⟨t, ps, rfl⟩ | ⟨t, n, ps, rfl⟩ | ⟨t, x, y, rfl⟩
  · simp only [evalM, eM_load] at h
    split at h
    · rename_i hx
      split at h
      · rename_i hl ht
        split at h
        · rename_i hz; cases h; obtain ⟨b, h1, h2, h3⟩ := cl_ok hl; rw [ws0]; exact LocalO.load1 hF hN hx h1 h2 h3 ht hz
        · cases h
      · rename_i hl ht
        split at h
        · rename_i hk
          split at h
          · rename_i hle; cases h; obtain ⟨b, h1, h2, h3⟩ := cl_ok hl; rw [ws0]; exact LocalO.loadA hF hN hx h1 h2 h3 ht hk hle
          · cases h
        · cases h
      · cases h
    · cases h
  · simp only [evalM, eM_store] at h
    split at h
    · rename_i hx hy
      split at h
      · rename_i hb hv hk
        split at h
        · rename_i hs
          split at h
          · rename_i hq
            cases h
            obtain ⟨h1, h2⟩ := bl_ok hb
            obtain ⟨l, h3, h4, h5⟩ := storeB_ok hs
            exact LocalO.store hF hx h1 h2 h3 hy (cvE_ok hv) (by rw [hk, hq.1]) h5 hq.2 h4
          · cases h
        · cases h
      · cases h
    · cases h
  · simp only [evalM, eM_alloc] at h
    split at h
    · rename_i hz; cases h; exact LocalO.alloc hF hN hz (hm rfl) hn
    · cases h
  · simp only [evalM, eM_box] at h
    split at h
    · rename_i hx
      split at h
      · rename_i hl; cases h; exact LocalO.box hF hN hx (cvE_ok hl) (hm rfl) hn
      · cases h
    · cases h
  · simp only [evalM, eM_build] at h
    split at h
    · rename_i hb hp
      split at h
      · rename_i hf
        cases h
        rw [ws0]
        have := LocalO.build (nn := nn) (rt := rt) (pos := pos) (af := af) (g := g) hF hN hb (partsE_ok hp) hf
        rwa [Array.toArray_toList] at this
      · cases h
    · cases h
  · simp only [evalM, eM_buildSlice] at h
    split at h
    · rename_i ht hp
      split at h
      · rename_i hz hk
        split at h
        · rename_i hf
          split at h
          · rename_i hq
            cases h
            have := LocalO.buildSlice (nn := nn) (rt := rt) (pos := pos) (af := af) (g := g) hF hN ht hz hk hq.1 hq.2.1 hq.2.2 (partsE_ok hp) hf (hm rfl) hn
            rwa [Array.toArray_toList] at this
          · cases h
        · cases h
      · cases h
    · cases h
  · simp only [evalM, eM_makeSlice] at h
    split at h
    · rename_i hx hy ht
      split at h
      · rename_i hz hk hi
        split at h
        · rename_i hq
          cases h
          exact LocalO.makeSlice hF hN hx hy ht hz hk hq.1 hq.2.1 (by rw [hi]; rfl) hq.2.2 (hm rfl) hn
        · cases h
      · cases h
    · cases h
theorem evalM_conv (hP : c.P = P) (hF : WideLike F) (hN : dOk c.N d = true) (hm : eff.fresh = true → ¬ c.gv m) (hn : s (.l m) = none) {src dst : TypeId} {x : Operand}
    (h : evalM P s m d (.convert src dst x) = some (v, eff, ks)) : LocalO c F nn ⟨d, .convert src dst x, rt, pos, af, g⟩ s ⟨kr ks, putW d v ++ eff.ws m⟩ := by
  subst hP
  simp only [evalM, eM_convert] at h
  split at h
  · rename_i hp; cases h; exact evalP_LocalO rfl hF hN hp
  · split at h
    · rename_i hx hs hd
      split at h
      · rename_i he; cases h; rw [ws0]; exact LocalO.textN hF hN hx hs he hd
      · cases h
    · rename_i hx hs hd
      split at h
      · rename_i he
        split at h
        · rename_i hle; cases h; exact LocalO.bytes hF hN hx rfl rfl hle (hm rfl) hn hs hd he
        · cases h
      · cases h
    · rename_i hx hs hd
      split at h
      · rename_i hsd he hb
        obtain rfl := Nat.eq_of_beq_eq_true hsd
        split at h
        · rename_i hl
          split at h
          · rename_i h0
            cases h
            obtain ⟨h1, h2⟩ := bl_ok hb
            exact LocalO.bmark hF hN hx h1 h2 hl (by simp) h0 hd he
          · cases h
        · cases h
      · cases h
    · rename_i hx hs hd
      split at h
      · rename_i he hsl
        split at h
        · rename_i hl
          split at h
          · rename_i hbs
            split at h
            · rename_i hle
              cases h
              obtain ⟨y, rfl, hy⟩ := sl_ok hsl
              obtain ⟨b, h1, h2, h3⟩ := cl_ok hl
              rw [ws0]; exact LocalO.text hF hN hx hy h1 h2 h3 hle (bytesL_ok hbs) hs he hd
            · cases h
          · cases h
        · cases h
      · cases h
    · cases h
theorem arr2 {α : Type} {x : Array α} {y z : α} (h : x.toList = [y, z]) : x = #[y, z] := by cases x; simp at h; subst h; rfl
theorem eM_append_ok (hP : c.P = P) (hF : WideLike F) {oo : Oper} (hN : dOk c.N d = true) (hm : eff.fresh = true → ¬ c.gv m) (hn : s (.l m) = none) {xs : Array Operand} {ts : Array TypeId}
    (hoo : ∀ x y t t2, xs = #[x, y] → ts = #[t, t2] → AppOp c oo d x y t t2 rt) (h : eM_append P s m xs ts = some (v, eff, ks)) : LocalO c F nn oo s ⟨kr ks, putW d v ++ eff.ws m⟩ := by
  subst hP
  simp only [eM_append] at h
  split at h
  · rename_i x y t t2 hxs hts
    obtain rfl := arr2 hxs
    obtain rfl := arr2 hts
    have hap := hoo _ _ _ _ rfl rfl
    split at h
    · rename_i el z by' ha
      obtain ⟨i, zv, hT⟩ := appE_ok ha
      split at h
      · rename_i hs hx
        split at h
        · rename_i hl
          split at h
          · rename_i hq
            cases h
            obtain ⟨b, h1, h2, h3⟩ := cl_ok hl
            obtain ⟨rfl, hq1, hq2, hq3⟩ := hq
            exact LocalO.appendG' hF hap hN hx h1 h2 h3 hq1 (srcE_ok hs) (hT _ ⟨hq2, hq3⟩) (hm rfl) hn rfl
          · cases h
        · cases h
      · rename_i hs hx
        split at h
        · split at h
          · rename_i hq
            cases h
            exact LocalO.appendZ' hF hap hN hx (lv_eq hq.1) (srcE_ok hs) (hT _ ⟨hq.2.1, hq.2.2⟩) (hm rfl) hn rfl
          · cases h
        · split at h
          · rename_i hl
            split at h
            · rename_i hq
              cases h
              obtain ⟨b, h1, h2, h3⟩ := cl_ok hl
              exact LocalO.appendS' hF hap hN hx h1 h2 h3 hq.1 hq.2.1 hq.2.2.1 (srcE_ok hs) (hT _ ⟨hq.2.2.2.1, hq.2.2.2.2⟩) (hm rfl) hn rfl
            · cases h
          · cases h
      · rename_i hs hx
        split at h
        · rename_i hq
          cases h
          exact LocalO.appendN' hF hap hN hx (srcE_ok hs) (hT _ ⟨hq.1, hq.2⟩) (hm rfl) hn rfl
        · cases h
      · cases h
    · cases h
  · cases h
theorem growBy_ge : ∀ (r n c : Nat), c ≤ Builtin.growBy n r c
  | 0, n, c => Nat.le_refl _
  | r + 1, n, c => by
    unfold Builtin.growBy
    split
    · exact Nat.le_refl _
    · exact Nat.le_trans (by omega) (growBy_ge r n _)
theorem cap_need {n c : Nat} (h : ¬ 281474976710656 < Builtin.nextslicecap n c) : n ≤ 1125899906842624 := by
  unfold Builtin.nextslicecap at h
  split at h
  · omega
  · split at h
    · omega
    · have := growBy_ge 4 n c
      omega
theorem zrs_size (n : Nat) : (zrs n).size = n := by simp [zrs, ByteArray.size]
theorem zrs_ext (n : Nat) : (zrs n).extract 0 n = zrs n := by
  apply ByteArray.ext
  rw [ByteArray.data_extract]
  apply Array.ext'
  simp [zrs]
theorem zrs_cells (n : Nat) : Builtin.zeroCells #[Value.int .u8 0] n = (zrs n).data.map fun b => Value.int .u8 b.toNat := by
  apply Array.ext
  · simp [Builtin.zeroCells, zrs]
  · intro j h1 h2
    simp [Builtin.zeroCells, zrs, Nat.mod_one]
theorem run_make {P : Program} {t ti ts el ty : TypeId} {i : TypeInfo} {kk : IntKind} {u r : Value} {n : Nat} {w w' : World} (ht : P.underlying t = some (.slice el)) (hti : P.underlying ti = some (.int kk)) (hts : P.underlying ts = some .string) (hi : P.info? el = some i) (hz : i.zero = some (.int .u8 0)) (h1 : i.size = 1) (hb : i.bytes = 1) (hn : n ≤ 1000) (hn0 : 1 ≤ n)
    (h : (Builtin.append_ #[t, ts] ty #[u, .string (zrs n)]).run P w = .ok r w') : (Builtin.append_ #[t, ti] ty #[u, .int .i64 (n : Int)]).run P w = .ok r w' := by
  have hsz := zrs_size n
  have hex := zrs_ext n
  have hwr : IntKind.i64.wrap (n : Int) = n := by rw [IntKind.wrap_i64]; omega
  have hc := zrs_cells n
  have hn1 : ¬ ((n : Int) < 0) := by omega
  have hn2 : ¬ ((281474976710656 : Int) < (n : Int)) := by omega
  have hcz : (Value.int .u8 0).cells = #[.int .u8 0] := rfl
  have hz0 : n = 0 → (zrs n).data.map (fun b => Value.int .u8 b.toNat) = #[] := fun h => by subst h; simp [zrs]
  have htk : List.take n (List.map (fun b : UInt8 => Value.int .u8 (b.toNat : Int)) (zrs n).data.toList) = List.map (fun b : UInt8 => Value.int .u8 (b.toNat : Int)) (zrs n).data.toList := List.take_of_length_le (by simp [zrs])
  have htk2 : (Array.map (fun b : UInt8 => Value.int .u8 (b.toNat : Int)) (zrs n).data).extract 0 n = Array.map (fun b : UInt8 => Value.int .u8 (b.toNat : Int)) (zrs n).data := by
    apply Array.ext'
    simp [zrs]
  have h0 : ¬ n = 0 := by omega
  have h0' : ¬ ((n : Int) ≤ 0) := by omega
  cases u with
  | slice p sl sc =>
    by_cases hfit : sl + n ≤ sc
    · rw [← h]
      simp [Builtin.append_, run_underlying ht, run_underlying hti, run_underlying hts, sizeOf, typeInfo, zeroValue, hi, hz, h1, hb, asInt, asIntOf, Builtin.lenOf, Builtin.firstCells, hsz, hwr, hfit, hex, hn1, hn2, h0, h0', hcz, hc, htk, htk2]
    · by_cases hcap : 281474976710656 < Builtin.nextslicecap (sl + n) sc
      · exfalso
        simp [Builtin.append_, run_underlying ht, run_underlying hts, sizeOf, typeInfo, zeroValue, hi, hz, h1, hb, Builtin.lenOf, hsz, hfit, hcap] at h
        cases hq : Sem.run P (Builtin.mayShare 1 sl n p (Value.string (zrs n))) w <;> rw [hq] at h <;> simp at h
      · have hneed := cap_need hcap
        have h63 : ¬ ((9223372036854775807 : Int) < (sl : Int) + (n : Int)) := by omega
        rw [← h]
        simp [Builtin.append_, run_underlying ht, run_underlying hti, run_underlying hts, sizeOf, typeInfo, zeroValue, hi, hz, h1, hb, asInt, asIntOf, Builtin.lenOf, Builtin.firstCells, hsz, hwr, hfit, hex, hn1, hn2, h0, h0', hcz, hc, htk, htk2, hcap, h63]
  | _ => simp [Builtin.append_, run_underlying ht, run_underlying hts] at h
theorem strT_ok {P : Program} {t : TypeId} (h : strT P = some t) : P.underlying t = some .string := by
  have := List.find?_some h
  split at this
  · assumption
  · cases this
theorem mkY_ok {P : Program} {xs : Array Operand} {ts : Array TypeId} {x : Operand} {n : Nat} {t tz : TypeId} (h : mkY P xs ts = some (x, n, t, tz)) :
    ∃ t2 el i kk, xs = #[x, .const (.int .i64 (n : Int))] ∧ ts = #[t, t2] ∧ P.underlying t = some (.slice el) ∧ P.underlying t2 = some (.int kk) ∧ P.underlying tz = some .string ∧ P.info? el = some i ∧ i.zero = some (.int .u8 0) ∧ i.size = 1 ∧ i.bytes = 1 ∧ n ≤ 1000 ∧ 1 ≤ n := by
  unfold mkY at h
  split at h
  · rename_i x' n' t' t2 hxs hts
    obtain rfl := arr2 hxs
    obtain rfl := arr2 hts
    split at h
    · rename_i el kk tz' h1 h2 h3
      split at h
      · rename_i i hi
        split at h
        · rename_i hz
          split at h
          · rename_i hq
            obtain ⟨q1, q2, q3, q4⟩ := hq
            simp only [Option.some.injEq, Prod.mk.injEq] at h
            obtain ⟨rfl, rfl, rfl, rfl⟩ := h
            have e : ((n'.toNat : Nat) : Int) = n' := Int.toNat_of_nonneg (Int.le_trans (by decide) q3)
            have e1 : ((1 : Nat) : Int) ≤ ((n'.toNat : Nat) : Int) := e.symm ▸ q3
            have e2 : ((n'.toNat : Nat) : Int) ≤ ((1000 : Nat) : Int) := e.symm ▸ q4
            exact ⟨t2, el, i, kk, by rw [e], rfl, h1, h2, strT_ok h3, hi, hz, q1, q2, Int.ofNat_le.1 e2, Int.ofNat_le.1 e1⟩
          · cases h
        · cases h
      · cases h
    · cases h
  · cases h
theorem evalM_append (hP : c.P = P) (hF : WideLike F) (hN : dOk c.N d = true) (hm : eff.fresh = true → ¬ c.gv m) (hn : s (.l m) = none) {xs : Array Operand} {ts : Array TypeId}
    (h : evalM P s m d (.call ⟨.builtin .append, xs, ts⟩) = some (v, eff, ks)) : LocalO c F nn ⟨d, .call ⟨.builtin .append, xs, ts⟩, rt, pos, af, g⟩ s ⟨kr ks, putW d v ++ eff.ws m⟩ := by
  simp only [evalM, eM_call, eM_appendZ] at h
  split at h
  · rename_i x n t tz hmk
    obtain ⟨t2, el, i, kk, rfl, rfl, g1, g2, g3, g4, g5, g6, g7, g8, g9⟩ := mkY_ok hmk
    refine eM_append_ok (rt := rt) hP hF hN hm hn (fun x' y' t' t2' he1 he2 => ?_) h
    cases he1
    cases he2
    subst hP
    exact ⟨rfl, noDefer rfl, fun a w r w' hr => run_call_append (ρ := a.eval) (run_make (n := n) g1 g2 g3 g4 g5 g6 g7 g8 g9 hr)⟩
  · exact eM_append_ok (rt := rt) hP hF hN hm hn (fun x y t t2 he1 he2 => by subst he1 he2; exact AppOp.self) h
theorem evalM_copy (hP : c.P = P) (hF : WideLike F) (hN : dOk c.N d = true) {xs : Array Operand} {ts : Array TypeId}
    (h : evalM P s m d (.call ⟨.builtin .copy, xs, ts⟩) = some (v, eff, ks)) : LocalO c F nn ⟨d, .call ⟨.builtin .copy, xs, ts⟩, rt, pos, af, g⟩ s ⟨kr ks, putW d v ++ eff.ws m⟩ := by
  subst hP
  simp only [evalM, eM_call, eM_copy] at h
  split at h
  · rename_i x y t t2 hxs hts
    obtain rfl := arr2 hxs
    obtain rfl := arr2 hts
    split at h
    · rename_i el ht
      split at h
      · rename_i z v1 v2 hz hx hy
        split at h
        · split at h
          · rename_i n o len h1
            split at h
            · rename_i b hb
              split at h
              · rename_i b' hs
                cases h
                obtain ⟨y1, rfl, hy1⟩ := sl_ok h1
                obtain ⟨k1, k2⟩ := bl_ok hb
                obtain ⟨l, g4, g5, g6⟩ := storeB_ok hs
                exact LocalO.copy hF hN hx hy1 k1 k2 g4 (by simp) (srcN_nil hy) (by simp) (by simpa using g6) ht hz g5
              · cases h
            · cases h
          · cases h
        split at h
        · rename_i n o len n2 o2 k h1 h2
          split at h
          · rename_i b own2 l2 hb hl2
            split at h
            · rename_i b' hs
              split at h
              · rename_i hle
                cases h
                obtain ⟨y1, rfl, hy1⟩ := sl_ok h1
                obtain ⟨y2, rfl, hy2⟩ := sl_ok h2
                obtain ⟨b2, g1, g2, g3⟩ := cl_ok hl2
                obtain ⟨k1, k2⟩ := bl_ok hb
                obtain ⟨l, g4, g5, g6⟩ := storeB_ok hs
                have hmin : Nat.min k len ≤ k := Nat.min_le_left _ _
                have hvl : (List.take (Nat.min k len * z) (List.drop o2 l2)).length = Nat.min k len * z := by
                  rw [List.length_take, List.length_drop]; omega
                exact LocalO.copy hF hN hx hy1 k1 k2 g4 rfl (srcN_named hy hy2 g1 g2 g3 hmin hle) hvl (by rw [hvl] at g6; exact g6) ht hz g5
              · cases h
            · cases h
          · cases h
        · cases h
      · cases h
    · cases h
  · cases h
theorem evalM_ok (hP : c.P = P) (hF : WideLike F) (hN : dOk c.N d = true) (hm : eff.fresh = true → ¬ c.gv m) (hn : s (.l m) = none) {op : Op}
    (h : evalM P s m d op = some (v, eff, ks)) : LocalO c F nn ⟨d, op, rt, pos, af, g⟩ s ⟨kr ks, putW d v ++ eff.ws m⟩ := by
  have pure' : (match evalP P s op with | some (v, ks) => some (v, Eff.no, ks) | none => none) = some (v, eff, ks) → LocalO c F nn ⟨d, op, rt, pos, af, g⟩ s ⟨kr ks, putW d v ++ eff.ws m⟩ := fun h => by
    split at h
    · rename_i hp; cases h; exact evalP_LocalO hP hF hN hp
    · cases h
  cases op with
  | load t x => exact evalM_mem hP hF hN hm hn (by simp) h
  | store t x y => exact evalM_mem hP hF hN hm hn (by simp) h
  | alloc t => exact evalM_mem hP hF hN hm hn (by simp) h
  | box t x => exact evalM_mem hP hF hN hm hn (by simp) h
  | build t ps => exact evalM_mem hP hF hN hm hn (by simp) h
  | buildSlice t n ps => exact evalM_mem hP hF hN hm hn (by simp) h
  | makeSlice t x y => exact evalM_mem hP hF hN hm hn (by simp) h
  | convert src dst x => exact evalM_conv hP hF hN hm hn h
  | call q =>
    obtain ⟨cal, xs, ts⟩ := q
    cases cal with
    | builtin b =>
      cases b with
      | append => exact evalM_append hP hF hN hm hn h
      | copy => exact evalM_copy hP hF hN h
      | _ => exact pure' h
    | _ => exact pure' h
  | _ => exact pure' h
end
end
end Go.Proofs.YtafhojmnbpegpaaGreat.EV
namespace Go.Proofs.YtafhojmnbpegpaaGreat.EV
noncomputable section
open Go.RowKit
abbrev Hp := T (Bool × B)
/-- What trees hold, as a state. -/
def lk (t : T V) (h : Hp) : Sf
  | .t i => match t.get i with
    | some v => some (.v v)
    | none => none
  | .b n => match h.get n with
    | some (_, b) => some (.b b)
    | none => none
  | .l n => match h.get n with
    | some (a, _) => some (.l a)
    | none => none
structure ES where
  t : T V
  h : Hp
  nx : Nat
  wl : List Nat
  fm : List Nat
/-- How a heap comes out of another. -/
structure Ext (h : Hp) (nx : Nat) (wl : List Nat) (h' : Hp) (nx' : Nat) (wl' : List Nat) : Prop where
  le : nx ≤ nx'
  inv : ∀ n, nx' ≤ n → h'.get n = none
  al : ∀ n, h.get n ≠ none → h'.get n ≠ none
  rev : ∀ n, n < nx → ∀ b, h'.get n = some (true, b) → ∃ b0, h.get n = some (true, b0)
  own : ∀ n l b, h'.get n = some (l, b) → (∃ l0, h.get n = some (l0, b)) ∨ b.own = true
  sub : ∀ n ∈ wl, n ∈ wl'
  un : ∀ n, n ∉ wl' → h'.get n = h.get n
theorem Ext.refl {h : Hp} {nx : Nat} {wl : List Nat} (hi : ∀ n, nx ≤ n → h.get n = none) : Ext h nx wl h nx wl :=
  ⟨Nat.le_refl _, hi, fun _ h => h, fun _ _ b h => ⟨b, h⟩, fun _ l _ h => .inl ⟨l, h⟩, fun _ h => h, fun _ _ => rfl⟩
theorem Ext.trans {h h1 h2 : Hp} {nx nx1 nx2 : Nat} {wl wl1 wl2 : List Nat} (a : Ext h nx wl h1 nx1 wl1) (b : Ext h1 nx1 wl1 h2 nx2 wl2) : Ext h nx wl h2 nx2 wl2 := by
  refine ⟨Nat.le_trans a.le b.le, b.inv, fun n hn => b.al n (a.al n hn), fun n hn x hx => ?_, fun n l x hx => ?_, fun n hn => b.sub n (a.sub n hn), fun n hn => ?_⟩
  · obtain ⟨b0, h0⟩ := b.rev n (Nat.lt_of_lt_of_le hn a.le) x hx
    exact a.rev n hn b0 h0
  · rcases b.own n l x hx with ⟨l0, h0⟩ | h0
    · exact a.own n l0 x h0
    · exact .inr h0
  · rw [b.un n hn, a.un n fun h => hn (b.sub n h)]
theorem lk_t {t : T V} {h : Hp} {i : Nat} {v : V} : lk t h (.t i) = some (.v v) ↔ t.get i = some v := by
  simp only [lk]; split <;> simp_all
theorem lk_l {t : T V} {h : Hp} {n : Nat} {a : Bool} : lk t h (.l n) = some (.l a) ↔ ∃ b, h.get n = some (a, b) := by
  simp only [lk]; split <;> simp_all
theorem lk_b {t : T V} {h : Hp} {n : Nat} {b : B} : lk t h (.b n) = some (.b b) ↔ ∃ a, h.get n = some (a, b) := by
  simp only [lk]; split <;> simp_all
theorem lk_l0 {t : T V} {h : Hp} {n : Nat} : lk t h (.l n) = none ↔ h.get n = none := by
  simp only [lk]; split <;> simp_all
theorem lk_b0 {t : T V} {h : Hp} {n : Nat} : lk t h (.b n) = none ↔ h.get n = none := by
  simp only [lk]; split <;> simp_all
/-- A block, written out. -/
def fcK : B → Option B
  | .m o l => match fcLs fcC l with
    | some r => some (.m o r)
    | none => none
  | .w o l => match fcLs fcX l with
    | some r => some (.w o r)
    | none => none
  | b => some b
theorem fcK_eq {x y : B} (h : fcK x = some y) : x = y := by
  cases x with
  | m o l =>
    simp only [fcK] at h
    split at h
    · rename_i r hr; cases h; rw [fcLs_eq (fun x y h => fcC_eq h) hr]
    · cases h
  | w o l =>
    simp only [fcK] at h
    split at h
    · rename_i r hr; cases h; rw [fcLs_eq (fun x y h => fcX_eq h) hr]
    · cases h
  | lp r => simp only [fcK] at h; cases h; rfl
  | df => simp only [fcK] at h; cases h; rfl
/-- A value laid into a slot. -/
def putT (t : T V) (d : Option Tmp) (v : V) : Option (T V) := match d with
  | none => some t
  | some i => match fcV v with
    | some v' => T.put 40 t i v'
    | none => none
theorem putT_get {t t' : T V} {d : Option Tmp} {v : V} (h : putT t d v = some t') (i : Nat) : t'.get i = if d = some i then some v else t.get i := by
  unfold putT at h
  cases d with
  | none => cases h; rw [if_neg (by simp)]
  | some j =>
    simp only at h
    split at h
    · rename_i v' hv
      rw [T.get_put _ _ _ _ _ i h, ← fcV_eq hv]
      simp
    · cases h
theorem putT_lk {t t' : T V} {d : Option Tmp} {v : V} (h : putT t d v = some t') (hp : Hp) : lk t' hp = upd (lk t hp) (putW d v) := by
  funext q
  cases q with
  | t i =>
    simp only [lk, putT_get h i]
    cases d with
    | none => rw [if_neg (by simp)]; simp only [putW, upd_nil]; rfl
    | some j =>
      simp only [putW, upd_cons, upd_nil]
      by_cases hj : j = i
      · subst hj; simp
      · rw [if_neg (by simpa using hj), if_neg (by simpa using hj)]; rfl
  | b n => cases d with
    | none => simp only [putW, upd_nil]; rfl
    | some j => rw [putW, upd_cons_ne _ _ _ (by simp), upd_nil]; rfl
  | l n => cases d with
    | none => simp only [putW, upd_nil]; rfl
    | some j => rw [putW, upd_cons_ne _ _ _ (by simp), upd_nil]; rfl
/-- What becomes of the heap: the heap, the next name, who is written. -/
def applyH (h : Hp) (nx : Nat) (wl : List Nat) : Eff → Option (Hp × Nat × List Nat)
  | .no => some (h, nx, wl)
  | .new b => match fcK b, fcN (nx + 1) with
    | some b', some nx' => match b'.own, T.put 40 h nx (true, b') with
      | true, some h' => some (h', nx', nx :: wl)
      | _, _ => none
    | _, _ => none
  | .chg n b => match h.get n, fcK b with
    | some (true, _), some b' => match b'.own, T.put 40 h n (true, b') with
      | true, some h' => some (h', nx, n :: wl)
      | _, _ => none
    | _, _ => none
  | .steal n b => match h.get n, fcK b, fcN (nx + 1) with
    | some (_, b0), some b', some nx' => match b'.own, T.put 40 h n (false, b0) with
      | true, some h1 => match T.put 40 h1 nx (true, b') with
        | some h' => some (h', nx', nx :: n :: wl)
        | none => none
      | _, _ => none
    | _, _, _ => none
theorem lk_put {t : T V} {h h' : Hp} {n : Nat} {a : Bool} {b : B} (hh : T.put 40 h n (a, b) = some h') : lk t h' = upd (lk t h) [(.l n, .l a), (.b n, .b b)] := by
  funext q
  cases q with
  | t i => rw [upd_cons_ne _ _ _ (by simp), upd_cons_ne _ _ _ (by simp), upd_nil]; rfl
  | b k =>
    rw [upd_cons_ne _ _ _ (by simp), upd_cons, upd_nil]
    simp only [lk, T.get_put _ _ _ _ _ k hh]
    by_cases hk : n = k
    · subst hk; simp
    · rw [if_neg hk, if_neg (by simpa using hk)]
  | l k =>
    rw [upd_cons, upd_cons_ne _ _ _ (by simp), upd_nil]
    simp only [lk, T.get_put _ _ _ _ _ k hh]
    by_cases hk : n = k
    · subst hk; simp
    · rw [if_neg hk, if_neg (by simpa using hk)]
theorem Ext.new {h h' : Hp} {nx : Nat} {wl : List Nat} {b : B} (hi : ∀ n, nx ≤ n → h.get n = none) (ho : b.own = true) (hh : T.put 40 h nx (true, b) = some h') : Ext h nx wl h' (nx + 1) (nx :: wl) := by
  have hg := fun k => T.get_put _ _ _ _ _ k hh
  refine ⟨by omega, fun n hn => ?_, fun n hn => ?_, fun n hn x hx => ?_, fun n l x hx => ?_, fun n hn => List.mem_cons_of_mem _ hn, fun n hn => ?_⟩
  · rw [hg, if_neg (by omega)]; exact hi n (by omega)
  · rw [hg]; split
    · simp
    · exact hn
  · rw [hg, if_neg (by omega)] at hx; exact ⟨x, hx⟩
  · rw [hg] at hx; split at hx
    · cases hx; exact .inr ho
    · exact .inl ⟨l, hx⟩
  · rw [hg, if_neg (fun e => hn (by simp [e]))]
theorem Ext.set {h h' : Hp} {n0 nx : Nat} {wl : List Nat} {b b0 : B} {a a0 : Bool} (hi : ∀ n, nx ≤ n → h.get n = none) (h0 : h.get n0 = some (a0, b0)) (ha : a = true → a0 = true) (ho : b = b0 ∨ b.own = true) (hh : T.put 40 h n0 (a, b) = some h') : Ext h nx wl h' nx (n0 :: wl) := by
  have hg := fun k => T.get_put _ _ _ _ _ k hh
  refine ⟨Nat.le_refl _, fun n hn => ?_, fun n hn => ?_, fun n hn x hx => ?_, fun n l x hx => ?_, fun n hn => List.mem_cons_of_mem _ hn, fun n hn => ?_⟩
  · rw [hg, if_neg (fun e => by subst e; rw [hi n0 hn] at h0; cases h0)]; exact hi n hn
  · rw [hg]; split
    · simp
    · exact hn
  · rw [hg] at hx; split at hx
    · rename_i e; subst e; cases hx; rw [ha rfl] at h0; exact ⟨_, h0⟩
    · exact ⟨x, hx⟩
  · rw [hg] at hx; split at hx
    · rename_i e; subst e; cases hx
      rcases ho with rfl | ho
      · exact .inl ⟨_, h0⟩
      · exact .inr ho
    · exact .inl ⟨l, hx⟩
  · rw [hg, if_neg (fun e => hn (by simp [e]))]
theorem upd_same {s : Sf} {k : Key} {x : KV} (h : s k = some x) (r : Ws) (hr : lookW r k = none) : upd s ((k, x) :: r) = upd s r := by
  funext q
  rw [upd_cons]
  split
  · rename_i e; subst e; simp [upd, hr, h]
  · rfl
theorem applyH_ok {t : T V} {h h' : Hp} {nx nx' : Nat} {wl wl' : List Nat} {eff : Eff} (ha : applyH h nx wl eff = some (h', nx', wl')) (hi : ∀ n, nx ≤ n → h.get n = none) : lk t h' = upd (lk t h) (eff.ws nx) ∧ Ext h nx wl h' nx' wl' := by
  cases eff with
  | no => cases ha; exact ⟨(upd_nil _).symm, .refl hi⟩
  | new b =>
    simp only [applyH] at ha
    split at ha
    · rename_i b' nx2 hb hn
      split at ha
      · rename_i ho hh
        cases ha
        obtain rfl := fcK_eq hb
        obtain rfl := fcN_eq hn
        exact ⟨lk_put hh, .new hi ho hh⟩
      · cases ha
    · cases ha
  | chg n b =>
    simp only [applyH] at ha
    split at ha
    · rename_i b0 b' h0 hb
      split at ha
      · rename_i ho hh
        cases ha
        obtain rfl := fcK_eq hb
        refine ⟨?_, .set hi h0 (fun h => h) (.inr ho) hh⟩
        rw [lk_put hh, upd_same (lk_l.2 ⟨_, h0⟩) _ (by simp [lookW, Key.beq])]; rfl
      · cases ha
    · cases ha
  | steal n b =>
    simp only [applyH] at ha
    split at ha
    · rename_i l0 b0 b' nx2 h0 hb hn
      split at ha
      · rename_i h1 ho h1h
        split at ha
        · rename_i h2 hh
          cases ha
          obtain rfl := fcK_eq hb
          obtain rfl := fcN_eq hn
          have e1 := Ext.set (wl := wl) hi h0 (fun h => by cases h) (.inl rfl) h1h
          refine ⟨?_, e1.trans (.new e1.inv ho hh)⟩
          have hne : n ≠ nx := fun e => by subst e; rw [hi n (Nat.le_refl _)] at h0; cases h0
          rw [lk_put hh, lk_put h1h]
          show upd (upd (lk t h) [(.l n, .l false), (.b n, .b b0)]) (wsNew nx b) = upd (lk t h) (wsSteal n nx b)
          rw [steal_eq hne]
          congr 1
          funext q
          rw [upd_cons, upd_cons, upd_cons, upd_nil]
          split
          · rfl
          · split
            · rename_i e; subst e; exact (lk_b.2 ⟨_, h0⟩).symm
            · rfl
        · cases ha
      · cases ha
    · cases ha
/-- What an operation makes of a state. -/
def applyE (S : ES) (d : Option Tmp) (v : V) (eff : Eff) : Option ES := match S with
  | ⟨t, h, nx, wl, fm⟩ => match putT t d v, applyH h nx wl eff with
    | some t', some (h', nx', wl') => some ⟨t', h', nx', wl', fm⟩
    | _, _ => none
def ES.s (S : ES) : Sf := lk S.t S.h
def ES.Inv (S : ES) : Prop := ∀ n, S.nx ≤ n → S.h.get n = none
theorem applyE_ok {S S' : ES} {d : Option Tmp} {v : V} {eff : Eff} (ha : applyE S d v eff = some S') (hi : S.Inv) : S'.s = upd S.s (putW d v ++ eff.ws S.nx) ∧ Ext S.h S.nx S.wl S'.h S'.nx S'.wl ∧ S'.fm = S.fm := by
  obtain ⟨t, h, nx, wl, fm⟩ := S
  simp only [applyE] at ha
  split at ha
  · rename_i t' h' nx' wl' ht hh
    cases ha
    obtain ⟨h1, h2⟩ := applyH_ok (t := t) hh hi
    refine ⟨?_, h2, rfl⟩
    show lk t' h' = upd (lk t h) _
    rw [upd_append, ← h1, putT_lk ht]
  · cases ha
theorem applyE_fresh {S S' : ES} {d : Option Tmp} {v : V} {eff : Eff} (ha : applyE S d v eff = some S') (hf : eff.fresh = true) : S.nx < S'.nx := by
  obtain ⟨t, h, nx, wl, fm⟩ := S
  simp only [applyE] at ha
  split at ha
  · rename_i t' h' nx' wl' ht hh
    cases ha
    cases eff with
    | no => cases hf
    | chg n b => cases hf
    | new b =>
      simp only [applyH] at hh
      split at hh
      · rename_i hb hn
        split at hh
        · cases hh; rw [← fcN_eq hn]; exact Nat.lt_succ_self _
        · cases hh
      · cases hh
    | steal n b =>
      simp only [applyH] at hh
      split at hh
      · rename_i h0 hb hn
        split at hh
        · split at hh
          · cases hh; rw [← fcN_eq hn]; exact Nat.lt_succ_self _
          · cases hh
        · cases hh
      · cases hh
  · cases ha
end
end Go.Proofs.YtafhojmnbpegpaaGreat.EV
namespace Go.Proofs.YtafhojmnbpegpaaGreat.EV
noncomputable section
open Go.RowKit
inductive XT where
  | normal
  | ret
  | exit (k : Nat)
def XT.ex : XT → Exit
  | .normal => .normal
  | .ret => .ret
  | .exit k => .exit k
def XT.jump : XT → Option Code
  | .normal => none
  | .ret => some .ret
  | .exit k => some (.exit k)
theorem XT.jump_ok (x : XT) : jumpOf x.ex = some x.jump := by cases x <;> rfl
/-- Code and functions, reckoned. -/
structure Rec where
  X : FuncId → Option (List Value → Option (List Value))
  C : Nat → Bool → Code → ES → Option (XT × ES)
  F : FuncId → List V → Hp → Nat → Option (V × Hp × Nat × List Nat)
structure FOk (F : Fence) (ro : Bool) : Prop where
  w : WideLike F
  r : ∀ l, F.inRound l = Fence.wide.inRound l
  room : ∀ k, F.room k
  o : ro = false → F.round = none
theorem fok_wide : FOk Fence.wide false := ⟨wide_like, fun _ => rfl, room_wide, fun _ => rfl⟩
theorem fok_round (l : Nat) : FOk (Fence.wide.inRound l) true := ⟨round_like l, fun _ => rfl, fun k d h => by simp [Fence.wide] at h, fun h => by cases h⟩
def SoundF (P : Program) (R : Rec) : Prop := ∀ f args h nx v h' nx' wl', R.F f args h nx = some (v, h', nx', wl') → (∀ n, nx ≤ n → h.get n = none) →
  Ext h nx [] h' nx' wl' ∧ (∃ t', CT P f args (lk .e h) nx nx' v (lk t' h')) ∧ ∀ args w, (callFunc f args).run P w = .ok (.enter f args) w
/-- What is said of functions that the model carries out here and now. -/
def SoundX (P : Program) (X : FuncId → Option (List Value → Option (List Value))) : Prop := ∀ f g L Z, X f = some g → g L = some Z → ∀ w, (callFunc f L.toArray).run P w = .ok (.value (.tuple Z.toArray)) w
def SoundC (P : Program) (R : Rec) : Prop := ∀ N ro code S xt S', R.C N ro code S = some (xt, S') → S.Inv →
  Ext S.h S.nx S.wl S'.h S'.nx S'.wl ∧ ∀ (c : Ctx) (F : Fence) (nn : Nat) (Q : Exit → Act → World → Prop), c.P = P → FOk F ro → c.N = N → c.fm = S.fm → (∀ n, S.nx ≤ n → n < S'.nx → ¬ c.gv n) →
    KW { c with fm := S'.fm } (Q xt.ex) S'.s → CW c F nn code Q S.s
def sameB : Bool → Bool → Bool
  | true, b => b
  | false, b => !b
theorem sameB_yes {a b : Bool} (h : sameB a b = true) : a = b := by cases a <;> cases b <;> first | rfl | cases h
theorem sameB_no {a b : Bool} (h : sameB a b = false) : a = !b := by cases a <;> cases b <;> first | rfl | cases h
theorem beq_no {n k : Nat} (h : ¬ n = k) : Nat.beq n k = false := by
  cases hb : Nat.beq n k with
  | true => exact absurd (Nat.eq_of_beq_eq_true hb) h
  | false => rfl
/-- The guard: is it carried out? -/
def gdE (ops : Array Oper) (s : Sf) : Option (Nat × Bool) → Option (Bool × List Key)
  | none => some (true, [])
  | some (j, want) => match (ops[j]?).bind (·.dst) with
    | some d => match s (.t d) with
      | some (.v (.c (.v (.bool b)))) => some (sameB b want, [.t d])
      | some (.v (.c (.v (.tuple a)))) => match a.toList with
        | [] => some (false, [.t d])
        | _ => none
      | _ => none
    | none => none
theorem gdE_yes {ops : Array Oper} {s : Sf} {g : Option (Nat × Bool)} {ks : List Key} (h : gdE ops s g = some (true, ks)) : GOk ops s g ks := by
  unfold gdE at h
  split at h
  · cases h; exact .none
  · split at h
    · rename_i hd
      split at h
      · rename_i b hv
        simp only [Option.some.injEq, Prod.mk.injEq] at h
        obtain ⟨h1, rfl⟩ := h
        exact .some hd hv (sameB_yes h1)
      · split at h <;> cases h
      · cases h
    · cases h
theorem gdE_no {c : Ctx} {F : Fence} {nn : Nat} {ops : Array Oper} {s : Sf} {i : Nat} {o : Oper} {ks : List Key} (h : gdE ops s o.guard = some (false, ks)) (hF : WideLike F) (hN : dOk c.N o.dst = true) (ho : ops[i]? = some o) : LocalI c F nn ops i s ⟨kr ks, putW o.dst (.c (.v undef))⟩ := by
  generalize hg : o.guard = g at h
  unfold gdE at h
  split at h
  · cases h
  · split at h
    · rename_i hd
      split at h
      · rename_i b hv
        simp only [Option.some.injEq, Prod.mk.injEq] at h
        obtain ⟨h1, rfl⟩ := h
        exact LocalO.skipped hF hg hd hv (sameB_no h1) hN ho
      · rename_i a hv
        split at h
        · rename_i ha
          cases h
          obtain rfl := arr0 ha
          exact LocalO.skippedU hF hg hd hv hN ho
        · cases h
      · cases h
    · cases h
def inB (X : List Nat) (n : Nat) : Bool := X.any (Nat.beq n)
theorem inB_iff {X : List Nat} {n : Nat} : inB X n = true ↔ n ∈ X := by
  simp only [inB, List.any_eq_true]
  exact ⟨fun ⟨x, h1, h2⟩ => Nat.eq_of_beq_eq_true h2 ▸ h1, fun h => ⟨n, h, by simp⟩⟩
theorem inB_no {X : List Nat} {n : Nat} : inB X n = false ↔ n ∉ X := by
  rw [← Bool.not_eq_true, inB_iff]
/-- Names hidden. -/
def maskT (h : Hp) : List Nat → Option Hp
  | [] => some h
  | n :: X => match h.get n with
    | some (_, b) => match T.put 40 h n (false, b) with
      | some h1 => maskT h1 X
      | none => none
    | none => none
theorem maskT_get : ∀ {X : List Nat} {h hm : Hp}, maskT h X = some hm → ∀ n, hm.get n = if n ∈ X then (match h.get n with | some (_, b) => some (false, b) | none => none) else h.get n
  | [], h, hm, hh, n => by cases hh; simp
  | k :: X, h, hm, hh, n => by
    simp only [maskT] at hh
    split at hh
    · rename_i a b hk
      split at hh
      · rename_i h1 hp
        have hg := T.get_put _ _ _ _ _ n hp
        rw [maskT_get hh n, hg]
        by_cases hkn : k = n
        · subst hkn; simp [hk]
        · have : ¬ n = k := fun e => hkn e.symm
          simp [hkn, this]
      · cases hh
    · cases hh
def backT (h0 h : Hp) : List Nat → Option Hp
  | [] => some h
  | n :: X => match h0.get n with
    | some p => match T.put 40 h n p with
      | some h1 => backT h0 h1 X
      | none => none
    | none => none
theorem backT_get {h0 : Hp} : ∀ {X : List Nat} {h hm : Hp}, backT h0 h X = some hm → ∀ n, hm.get n = if n ∈ X then h0.get n else h.get n
  | [], h, hm, hh, n => by cases hh; simp
  | k :: X, h, hm, hh, n => by
    simp only [backT] at hh
    split at hh
    · rename_i p hk
      split at hh
      · rename_i h1 hp
        have hg := T.get_put _ _ _ _ _ n hp
        rw [backT_get hh n, hg]
        by_cases hkn : k = n
        · subst hkn; simp [hk]
        · have : ¬ n = k := fun e => hkn e.symm
          simp [hkn, this]
      · cases hh
    · cases hh
def wsOf (h : Hp) : List Nat → Ws
  | [] => []
  | n :: l => match h.get n with
    | some (a, b) => (.l n, .l a) :: (.b n, .b b) :: wsOf h l
    | none => wsOf h l
theorem wsOf_t {h : Hp} {i : Nat} : ∀ l, lookW (wsOf h l) (.t i) = none
  | [] => rfl
  | n :: l => by
    simp only [wsOf]
    split
    · simp only [lookW, Key.beq, cond_false]; exact wsOf_t l
    · exact wsOf_t l
theorem wsOf_l {h : Hp} {k : Nat} : ∀ l, lookW (wsOf h l) (.l k) = if k ∈ l then lk .e h (.l k) else none
  | [] => rfl
  | n :: l => by
    simp only [wsOf]
    split
    · rename_i a b hn
      simp only [lookW, Key.beq, cond_false]
      by_cases hk : n = k
      · subst hk; simp [lk, hn]
      · have : ¬ k = n := fun e => hk e.symm
        have h2 := beq_no hk
        simp only [h2, cond_false, wsOf_l l, List.mem_cons, this, false_or]
    · rename_i hn
      rw [wsOf_l l]
      by_cases hk : k = n
      · subst hk; simp [lk, hn]
      · simp [hk]
theorem wsOf_b {h : Hp} {k : Nat} : ∀ l, lookW (wsOf h l) (.b k) = if k ∈ l then lk .e h (.b k) else none
  | [] => rfl
  | n :: l => by
    simp only [wsOf]
    split
    · rename_i a b hn
      simp only [lookW, Key.beq, cond_false]
      by_cases hk : n = k
      · subst hk; simp [lk, hn]
      · have : ¬ k = n := fun e => hk e.symm
        have h2 := beq_no hk
        simp only [h2, cond_false, wsOf_b l, List.mem_cons, this, false_or]
    · rename_i hn
      rw [wsOf_b l]
      by_cases hk : k = n
      · subst hk; simp [lk, hn]
      · simp [hk]
/-- A heap's state, out of who is written. -/
theorem wsOf_lk {t : T V} {h h' : Hp} {l : List Nat} (hu : ∀ n, n ∉ l → h'.get n = h.get n) (hal : ∀ n, h.get n ≠ none → h'.get n ≠ none) : lk t h' = upd (lk t h) (wsOf h' l) := by
  funext q
  cases q with
  | t i => simp only [upd, wsOf_t, Option.none_or]; rfl
  | b n =>
    simp only [upd, wsOf_b]
    by_cases hn : n ∈ l
    · rw [if_pos hn]
      cases hx : h'.get n with
      | none =>
        have : h.get n = none := by
          cases hy : h.get n with
          | none => rfl
          | some p => exact absurd hx (hal n (by rw [hy]; simp))
        simp [lk, hx, this]
      | some p => simp [lk, hx]
    · rw [if_neg hn, Option.none_or]; simp only [lk, hu n hn]
  | l n =>
    simp only [upd, wsOf_l]
    by_cases hn : n ∈ l
    · rw [if_pos hn]
      cases hx : h'.get n with
      | none =>
        have : h.get n = none := by
          cases hy : h.get n with
          | none => rfl
          | some p => exact absurd hx (hal n (by rw [hy]; simp))
        simp [lk, hx, this]
      | some p => simp [lk, hx]
    · rw [if_neg hn, Option.none_or]; simp only [lk, hu n hn]
/-- Nobody hidden is named. -/
def offB (X : List Nat) (l : List Nat) : Bool := match X with
  | [] => true
  | _ => l.all fun n => !inB X n
theorem offB_ok {X l : List Nat} (h : offB X l = true) : ∀ n ∈ l, inB X n = false := by
  intro n hn
  cases X with
  | nil => rfl
  | cons x X => simp only [offB] at h; simpa using List.all_eq_true.1 h n hn
def offH (X : List Nat) (h : Hp) : Bool := match X with
  | [] => true
  | _ => h.all fun p => p.2.names.all fun n => !inB X n
theorem offH_ok {X : List Nat} {h : Hp} (ha : offH X h = true) {n : Nat} {a : Bool} {b : B} (hn : h.get n = some (a, b)) : ∀ m ∈ b.names, inB X m = false := by
  intro m hm
  cases X with
  | nil => rfl
  | cons x X =>
    simp only [offH] at ha
    have := T.all_get ha hn
    simpa using List.all_eq_true.1 this m hm
def offL (X : List Nat) (h : Hp) (l : List Nat) : Bool := match X with
  | [] => true
  | _ => l.all fun n => !inB X n && (match h.get n with
    | some (_, b) => b.names.all fun m => !inB X m
    | none => true)
theorem offL_ok {X : List Nat} {h : Hp} {l : List Nat} (ha : offL X h l = true) {n : Nat} (hn : n ∈ l) : inB X n = false ∧ ∀ a b, h.get n = some (a, b) → ∀ m ∈ b.names, inB X m = false := by
  cases X with
  | nil => exact ⟨rfl, fun _ _ _ _ _ => rfl⟩
  | cons x X =>
    simp only [offL] at ha
    have := List.all_eq_true.1 ha n hn
    simp only [Bool.and_eq_true, Bool.not_eq_true'] at this
    refine ⟨this.1, fun a b hb m hm => ?_⟩
    have h2 := this.2
    rw [hb] at h2
    simpa using List.all_eq_true.1 h2 m hm
/-- A call: what the slots have to say of it. -/
def callE (R : Rec) (S : ES) (X : List Nat) (d : Option Tmp) (x : Operand) (xs : List Operand) (f : FuncId) (ca : List (Nat × Nat)) : Option (Tr × ES) := match S with
  | ⟨t, h, nx, wl, fm⟩ => match valsE (lk t h) xs, maskT h X with
    | some (vs, ks), some hm => match ca.all (fun q => lv (lk t h) q.1 && !inB X q.1), R.F f (vs ++ capV ca) hm nx with
      | true, some (v, h', nx', wl') => match X.all (fun n => Nat.blt n nx) && (offB X v.names && (offH X h && (offL X h' wl' && fm.all (fun n => !inB wl' n)))), backT h h' X, putT t d v with
        | true, some h2, some t2 => some (⟨rdCall (opk x ++ ks) (inB X) nx', putW d v ++ wsOf h' wl'⟩, ⟨t2, h2, nx', wl' ++ wl, fm⟩)
        | _, _, _ => none
      | _, _ => none
    | _, _ => none
theorem callE_ok {P : Program} {R : Rec} (hR : SoundF P R) {S S' : ES} {X : List Nat} {d : Option Tmp} {x : Operand} {xs : List Operand} {f : FuncId} {ca : List (Nat × Nat)} {tr : Tr} (h : callE R S X d x xs f ca = some (tr, S')) (hi : S.Inv) (hx : opv S.s x = some (.c (.f f ca))) :
    Ext S.h S.nx S.wl S'.h S'.nx S'.wl ∧ S'.fm = S.fm ∧ S'.s = upd S.s tr.ws ∧ ∀ (c : Ctx) (F : Fence) (nn : Nat) (tys : Array TypeId) (rt : TypeId) (pos : String) (af : Array Edge) (g : Option (Nat × Bool)), c.P = P → WideLike F → dOk c.N d = true → c.fm = S.fm → (∀ n, S.nx ≤ n → n < S'.nx → ¬ c.gv n) →
      LocalO c F nn ⟨d, .call ⟨.value x, xs.toArray, tys⟩, rt, pos, af, g⟩ S.s tr := by
  obtain ⟨t, h0, nx, wl, fm⟩ := S
  simp only [callE] at h
  split at h
  · rename_i vs ks hm hv hmk
    split at h
    · rename_i v h' nx' wl' hca hF
      split at h
      · rename_i h2 t2 hchk hbk hpt
        cases h
        simp only [Bool.and_eq_true] at hchk
        obtain ⟨hX, hvn, hH, hL, hfm⟩ := hchk
        have hXlt : ∀ n, n ∈ X → n < nx := fun n hn => by simpa using List.all_eq_true.1 hX n hn
        have gm := maskT_get hmk
        have gb := backT_get hbk
        have hi' : ∀ n, nx ≤ n → h0.get n = none := hi
        have him : ∀ n, nx ≤ n → hm.get n = none := fun n hn => by
          rw [gm, if_neg (fun h => by have := hXlt n h; omega)]; exact hi' n hn
        obtain ⟨hE, ⟨t', hCT⟩, hcall⟩ := hR _ _ _ _ _ _ _ _ hF him
        have gmne : ∀ n, h0.get n ≠ none → hm.get n ≠ none := fun n hn => by
          rw [gm]; split
          · cases hy : h0.get n with
            | none => exact absurd hy hn
            | some p => simp
          · exact hn
        have gmt : ∀ n b, hm.get n = some (true, b) → n ∉ X ∧ h0.get n = some (true, b) := fun n b hb => by
          rw [gm] at hb; split at hb
          · split at hb <;> cases hb
          · rename_i hn; exact ⟨hn, hb⟩
        have gml : ∀ n l b, hm.get n = some (l, b) → ∃ l0, h0.get n = some (l0, b) := fun n l b hb => by
          rw [gm] at hb; split at hb
          · split at hb
            · rename_i hh; cases hb; exact ⟨_, hh⟩
            · cases hb
          · exact ⟨_, hb⟩
        have hun : ∀ n, n ∉ wl' → h2.get n = h0.get n := fun n hn => by
          rw [gb]; split
          · rfl
          · rename_i hx; rw [hE.un n hn, gm, if_neg hx]
        have hal2 : ∀ n, h0.get n ≠ none → h2.get n ≠ none := fun n hn => by
          rw [gb]; split
          · exact hn
          · exact hE.al n (gmne n hn)
        have hExt : Ext h0 nx wl h2 nx' (wl' ++ wl) := by
          refine ⟨hE.le, fun n hn => ?_, hal2, fun n hn b hb => ?_, fun n l b hb => ?_, fun n hn => List.mem_append.2 (.inr hn), fun n hn => hun n fun h => hn (List.mem_append.2 (.inl h))⟩
          · rw [gb, if_neg (fun h => by have := hXlt n h; have := hE.le; omega)]; exact hE.inv n hn
          · rw [gb] at hb; split at hb
            · exact ⟨_, hb⟩
            · obtain ⟨b0, h3⟩ := hE.rev n hn b hb
              exact ⟨b0, (gmt n b0 h3).2⟩
          · rw [gb] at hb; split at hb
            · exact .inl ⟨_, hb⟩
            · rcases hE.own n l b hb with ⟨l0, h3⟩ | h3
              · exact .inl (gml n l0 b h3)
              · exact .inr h3
        have hwl : wsOf h2 wl' = wsOf h' wl' := by
          have : ∀ l : List Nat, (∀ n ∈ l, n ∈ wl') → wsOf h2 l = wsOf h' l := fun l => by
            induction l with
            | nil => intro _; rfl
            | cons n l ih =>
              intro hl
              have hX2 : n ∉ X := inB_no.1 (offL_ok hL (hl n List.mem_cons_self)).1
              have e : h2.get n = h'.get n := by rw [gb, if_neg hX2]
              simp only [wsOf, e, ih fun m hm => hl m (List.mem_cons_of_mem _ hm)]
          exact this wl' fun _ h => h
        have hs2 : lk t h2 = upd (lk t h0) (wsOf h' wl') := by rw [← hwl]; exact wsOf_lk hun hal2
        refine ⟨hExt, rfl, ?_, fun c F nn tys rt pos af g hP hW hN hfmc hgv => ?_⟩
        · show lk t2 h2 = upd (lk t h0) _
          rw [putT_lk hpt, hs2, ← upd_append]
        · have hmask : mask (lk t h0) (inB X) = lk .e hm := by
            funext q
            cases q with
            | t i => rfl
            | b n =>
              simp only [mask, lk]
              rw [gm]
              split
              · rename_i p hp; rw [hp]; by_cases hn : n ∈ X <;> simp [hn]
              · rename_i hp; rw [hp]; by_cases hn : n ∈ X <;> simp [hn]
            | l n =>
              simp only [mask, lk]
              rw [gm]
              by_cases hn : n ∈ X
              · rw [if_pos (inB_iff.2 hn), if_pos hn]
                cases h0.get n <;> rfl
              · rw [if_neg (by rw [inB_no.2 hn]; simp), if_neg hn]
          have hC : CallOk c (lk t h0) (inB X) nx nx' v (lk t' h') (wsOf h' wl') := by
            refine ⟨hE.le, hgv, fun n hn => lk_l0.2 (hi' n hn), fun n hn => ?_, fun n hn => hXlt n (inB_iff.1 hn), fun q y hq => ?_, fun n hn => ?_, fun n hn => ?_, fun n b _ hb => ?_, offB_ok hvn, fun n hn hb => ?_, fun n b hn hb => ?_, fun n hn => ?_⟩
            · cases hy : h0.get n with
              | none => exact absurd (lk_l0.2 hy) hn
              | some p => exact ⟨p.2, lk_b.2 ⟨p.1, hy⟩⟩
            · cases q with
              | t i => rw [wsOf_t] at hq; cases hq
              | b n =>
                rw [wsOf_b] at hq
                split at hq
                · rename_i hn
                  obtain ⟨h3, h4⟩ := offL_ok hL hn
                  have hq' : lk t' h' (.b n) = some y := hq
                  simp only [lk] at hq
                  split at hq
                  · rename_i a b hg
                    cases hq
                    refine ⟨hq', ⟨n, .inr rfl, h3, ?_⟩, h4 a b hg⟩
                    rcases Nat.lt_or_ge n nx' with h5 | h5
                    · exact h5
                    · rw [hE.inv n h5] at hg; cases hg
                  · cases hq
                · cases hq
              | l n =>
                rw [wsOf_l] at hq
                split at hq
                · rename_i hn
                  obtain ⟨h3, h4⟩ := offL_ok hL hn
                  have hq' : lk t' h' (.l n) = some y := hq
                  simp only [lk] at hq
                  split at hq
                  · rename_i a b hg
                    cases hq
                    refine ⟨hq', ⟨n, .inl rfl, h3, ?_⟩, fun m hm => by cases hm⟩
                    rcases Nat.lt_or_ge n nx' with h5 | h5
                    · exact h5
                    · rw [hE.inv n h5] at hg; cases hg
                  · cases hq
                · cases hq
            · rw [hmask]
              rw [wsOf_l] at hn
              by_cases hw : n ∈ wl'
              · rw [if_pos hw] at hn
                have h3 := lk_l0.1 hn
                have h4 : hm.get n = none := by
                  cases hy : hm.get n with
                  | none => rfl
                  | some p => exact absurd h3 (hE.al n (by rw [hy]; simp))
                rw [lk_l0.2 h3, lk_l0.2 h4]
              · simp only [lk, hE.un n hw]
            · rw [hmask]
              rw [wsOf_b] at hn
              by_cases hw : n ∈ wl'
              · rw [if_pos hw] at hn
                have h3 := lk_b0.1 hn
                have h4 : hm.get n = none := by
                  cases hy : hm.get n with
                  | none => rfl
                  | some p => exact absurd h3 (hE.al n (by rw [hy]; simp))
                rw [lk_b0.2 h3, lk_b0.2 h4]
              · simp only [lk, hE.un n hw]
            · obtain ⟨a, ha⟩ := lk_b.1 hb
              exact offH_ok hH ha
            · obtain ⟨b, h3⟩ := lk_l.1 hb
              obtain ⟨b0, h4⟩ := hE.rev n hn b h3
              exact lk_l.2 ⟨b0, (gmt n b0 h4).2⟩
            · obtain ⟨a, h3⟩ := lk_b.1 hb
              rcases hE.own n a b h3 with ⟨l0, h4⟩ | h4
              · rw [him n hn] at h4; cases h4
              · exact h4
            · rw [hfmc] at hn
              have : inB wl' n = false := by simpa using List.all_eq_true.1 hfm n hn
              have h3 := inB_no.1 this
              rw [wsOf_l, wsOf_b, if_neg h3, if_neg h3]; exact ⟨rfl, rfl⟩
          subst hP
          refine LocalO.call hW hcall hx (fun q hq => ?_) (valsE_ok hv) hN (by rw [show mask (ES.s ⟨t, h0, nx, wl, fm⟩) (inB X) = lk .e hm from hmask]; exact hCT) hC
          have := List.all_eq_true.1 hca q hq
          simp only [Bool.and_eq_true, Bool.not_eq_true'] at this
          exact ⟨lv_eq this.1, this.2⟩
      · cases h
    · cases h
  · cases h
end
end Go.Proofs.YtafhojmnbpegpaaGreat.EV
namespace Go.Proofs.YtafhojmnbpegpaaGreat.EV
noncomputable section
open Go.RowKit
theorem T.mem_list {α : Type} : ∀ {t : T α} {g : Nat → Nat} {r : List (Nat × α)} {k : Nat} {x : α}, (t.get k = some x → (g k, x) ∈ t.list g r) ∧ (∀ y, y ∈ r → y ∈ t.list g r)
  | .e, g, r, k, x => ⟨fun h => (by cases h), fun y h => h⟩
  | .n v l m, g, r, k, x => by
    have hr : ∀ y, y ∈ r → y ∈ l.list (fun k => g (2 * k + 1)) (m.list (fun k => g (2 * k + 2)) r) := fun y hy => (T.mem_list (k := 0) (x := x)).2 y ((T.mem_list (k := 0) (x := x)).2 y hy)
    have wrap : ∀ y, y ∈ l.list (fun k => g (2 * k + 1)) (m.list (fun k => g (2 * k + 2)) r) → y ∈ (T.n v l m).list g r := fun y hy => by
      simp only [T.list]; split
      · exact List.mem_cons_of_mem _ hy
      · exact hy
    refine ⟨fun h => ?_, fun y hy => wrap y (hr y hy)⟩
    cases k with
    | zero =>
      simp only [T.get_e, T.get_n0, T.get_ns] at h; subst h
      simp [T.list]
    | succ k =>
      simp only [T.get_e, T.get_n0, T.get_ns] at h
      refine wrap _ ?_
      cases hb : Nat.beq (k % 2) 0 with
      | true =>
        rw [hb, cond_true] at h
        have h1 := Nat.eq_of_beq_eq_true hb
        have := (T.mem_list (t := l) (g := fun k => g (2 * k + 1)) (r := m.list (fun k => g (2 * k + 2)) r)).1 h
        rwa [show 2 * (k / 2) + 1 = k + 1 by omega] at this
      | false =>
        rw [hb, cond_false] at h
        have h1 : k % 2 ≠ 0 := fun e => by rw [e] at hb; cases hb
        have := (T.mem_list (t := m) (g := fun k => g (2 * k + 2)) (r := r)).1 h
        rw [show 2 * (k / 2) + 2 = k + 1 by omega] at this
        exact (T.mem_list (t := l) (k := 0) (x := x)).2 _ this
theorem assoc_some : ∀ {l : List (Nat × V)} {i : Nat} {v : V}, (i, v) ∈ l → ∃ w, assoc l i = some w
  | (k, x) :: r, i, v, h => by
    simp only [assoc]
    cases hk : Nat.beq k i with
    | true => exact ⟨x, rfl⟩
    | false =>
      rcases List.mem_cons.1 h with h | h
      · cases h; simp at hk
      · exact assoc_some h
theorem assoc_list (t : T V) (i : Nat) : assoc (t.list (fun k => k) []) i = t.get i := by
  cases h : t.get i with
  | some v =>
    obtain ⟨w, hw⟩ := assoc_some (((T.mem_list (t := t) (g := fun k => k) (r := [])).1 h))
    have := assoc_mem hw
    rcases T.list_mem this with ⟨k, h1, h2⟩ | h1
    · rw [hw, ← h, ← h2, ← h1]
    · cases h1
  | none =>
    cases hw : assoc (t.list (fun k => k) []) i with
    | none => rfl
    | some w =>
      rcases T.list_mem (assoc_mem hw) with ⟨k, h1, h2⟩ | h1
      · have h1 : k = i := h1
        rw [h1, h] at h2; cases h2
      · cases h1
def putAll : List (Nat × V) → T V → Option (T V)
  | [], t => some t
  | (i, v) :: r, t => match T.put 40 t i v with
    | some t' => putAll r t'
    | none => none
theorem putAll_get : ∀ {l : List (Nat × V)} {t t' : T V}, putAll l t = some t' → ∀ {i : Nat} {v : V}, t'.get i = some v → (i, v) ∈ l ∨ t.get i = some v
  | [], t, t', h, i, v, hv => by cases h; exact .inr hv
  | (k, x) :: r, t, t', h, i, v, hv => by
    simp only [putAll] at h
    split at h
    · rename_i t1 h1
      rcases putAll_get h hv with h2 | h2
      · exact .inl (List.mem_cons_of_mem _ h2)
      · rw [T.get_put _ _ _ _ _ i h1] at h2
        split at h2
        · rename_i e; subst e; cases h2; exact .inl List.mem_cons_self
        · exact .inr h2
    · cases h
section
variable {s : Sf} {e : Env}
def Told (s : Sf) (e : Env) (t : T V) (tm : Array Value) : Prop := ∀ i v, t.get i = some v → ∃ u, tm[i]? = some u ∧ OkV s e v u
theorem zip_ok : ∀ {ps : List Tmp} {vs : List V} {us : List Value} {t t' : T V} {tm : Array Value}, OkVs s e vs us → (∀ p ∈ ps, p < tm.size) → putAll (ps.zip vs) t = some t' → Told s e t tm →
    ((ps.zip us).foldl (fun t (p, v) => t.setIfInBounds p v) tm).size = tm.size ∧ Told s e t' ((ps.zip us).foldl (fun t (p, v) => t.setIfInBounds p v) tm)
  | [], vs, us, t, t', tm, _, _, h, ht => by simp only [List.zip_nil_left, putAll, Option.some.injEq] at h; subst h; exact ⟨rfl, ht⟩
  | p :: ps, [], us, t, t', tm, hv, _, h, ht => by
    obtain rfl : us = [] := hv
    simp only [List.zip_nil_right, putAll, Option.some.injEq] at h; subst h; exact ⟨rfl, ht⟩
  | p :: ps, v :: vs, _, t, t', tm, ⟨u, r, rfl, h1, h2⟩, hp, h, ht => by
    simp only [List.zip_cons_cons, putAll] at h
    split at h
    · rename_i t1 hp1
      have hp0 : p < tm.size := hp p List.mem_cons_self
      obtain ⟨g1, g2⟩ := zip_ok (tm := tm.setIfInBounds p u) h2 (fun q hq => by simpa using hp q (List.mem_cons_of_mem _ hq)) h (fun i x hx => by
        rw [T.get_put _ _ _ _ _ i hp1] at hx
        rw [Array.getElem?_setIfInBounds]
        split at hx
        · rename_i e; subst e; cases hx; exact ⟨u, by simp [hp0], h1⟩
        · rename_i hne; rw [if_neg hne]; exact ht i x hx)
      exact ⟨by rw [List.zip_cons_cons, List.foldl_cons, g1]; simp, g2⟩
    · cases h
end
theorem Ext.more {h h' : Hp} {nx nx' : Nat} {wl wl' : List Nat} (a : Ext h nx [] h' nx' wl') : Ext h nx wl h' nx' (wl' ++ wl) :=
  ⟨a.le, a.inv, a.al, a.rev, a.own, fun _ hn => List.mem_append.2 (.inr hn), fun n hn => a.un n fun h => hn (List.mem_append.2 (.inl h))⟩
theorem lk_putB {t : T V} {h h' : Hp} {n : Nat} {b b0 : B} (h0 : h.get n = some (true, b0)) (hh : T.put 40 h n (true, b) = some h') : lk t h' = upd (lk t h) [(.b n, .b b)] := by
  rw [lk_put hh, upd_same (lk_l.2 ⟨_, h0⟩) _ (by simp [lookW, Key.beq])]
theorem hp_lk {t : T V} {h : Hp} : hp (lk t h) = lk .e h := by funext q; cases q <;> rfl
theorem mix_lk {t t' : T V} {h h' : Hp} : mix (lk t h) (lk t' h') = lk t h' := by funext q; cases q <;> rfl
theorem Ctx.fm_eq {c : Ctx} {l : List Nat} (h : c.fm = l) : ({ c with fm := l } : Ctx) = c := by cases c; cases h; rfl
/-- One round. -/
def yieldE (R : Rec) (S : ES) (d : Option Tmp) (xs : List Operand) (l : Nat) : Option (Tr × ES) := match S with
  | ⟨t, h, nx, wl, fm⟩ => match h.get l, valsE (lk t h) xs with
    | some (true, .lp ⟨.ready, _, N, ts, ps, ag, bd, _⟩), some (vs, _) => match Nat.beq ps.size vs.length && (ps.toList.all (fun p => Nat.blt p N) && Nat.blt l nx), putAll ts .e with
      | true, some t0 => match putAll (ps.toList.zip vs) t0 with
        | some tt => match R.C N true ag ⟨tt, h, nx, [], []⟩ with
          | some (.normal, ⟨t1, h1, nx1, wl1, []⟩) => match h1.get l with
            | some (true, .lp ⟨.ready, pe1, N1, ts1, ps1, ag1, bd1, D1⟩) => match T.put 40 h1 l (true, .lp ⟨.busy, pe1, N1, ts1, ps1, ag1, bd1, D1⟩) with
              | some h1' => match R.C N true bd ⟨t1, h1', nx1, l :: wl1, []⟩ with
                | some (xt, ⟨_, h2, nx2, wl2, []⟩) => match h2.get l with
                  | some (true, .lp ⟨_, _, N2, ts2, ps2, ag2, bd2, D2⟩) => match T.put 40 h2 l (true, .lp ⟨if xt.jump.isNone then .ready else .done, xt.jump, N2, ts2, ps2, ag2, bd2, D2⟩) with
                    | some h3 => match fm.all (fun n => match h3.get n with | some (true, .df) => true | _ => false), putT t d (.c (.v (.bool xt.jump.isNone))) with
                      | true, some t' => some (⟨fun _ => true, putW d (.c (.v (.bool xt.jump.isNone))) ++ wsOf h3 (l :: wl2)⟩, ⟨t', h3, nx2, (l :: wl2) ++ wl, fm⟩)
                      | _, _ => none
                    | none => none
                  | _ => none
                | _ => none
              | none => none
            | _ => none
          | _ => none
        | none => none
      | _, _ => none
    | _, _ => none
theorem yieldE_ok {P : Program} {R : Rec} (hRc : SoundC P R) {S S' : ES} {d : Option Tmp} {x : Operand} {xs : List Operand} {l : Nat} {tr : Tr} (h : yieldE R S d xs l = some (tr, S')) (hi : S.Inv) (hx : opv S.s x = some (.c (.y l))) :
    Ext S.h S.nx S.wl S'.h S'.nx S'.wl ∧ S'.fm = S.fm ∧ S'.s = upd S.s tr.ws ∧ ∀ (c : Ctx) (F : Fence) (nn : Nat) (ro : Bool) (tys : Array TypeId) (rt : TypeId) (pos : String) (af : Array Edge) (g : Option (Nat × Bool)), c.P = P → FOk F ro → dOk c.N d = true → c.fm = S.fm → (∀ n, S.nx ≤ n → n < S'.nx → ¬ c.gv n) →
      LocalO c F nn ⟨d, .call ⟨.value x, xs.toArray, tys⟩, rt, pos, af, g⟩ S.s tr := by
  obtain ⟨t, h0, nx, wl, fm⟩ := S
  simp only [yieldE] at h
  split at h
  · rename_i pe N ts ps ag bd D vs ks hl hv
    split at h
    · rename_i t0 hchk ht0
      split at h
      · rename_i tt htt
        split at h
        · rename_i t1 h1 nx1 wl1 hA
          split at h
          · rename_i pe1 N1 ts1 ps1 ag1 bd1 D1 hl1
            split at h
            · rename_i h1' hp1
              split at h
              · rename_i xt t2 h2 nx2 wl2 hB
                split at h
                · rename_i st2 pe2 N2 ts2 ps2 ag2 bd2 D2 hl2
                  split at h
                  · rename_i h3 hp3
                    split at h
                    · rename_i t' hfm hpt
                      cases h
                      simp only [Bool.and_eq_true] at hchk
                      obtain ⟨hsz, hps, hlo⟩ := hchk
                      have hsz := Nat.eq_of_beq_eq_true hsz
                      have hlo : l < nx := by simpa using hlo
                      have hi' : ∀ n, nx ≤ n → h0.get n = none := hi
                      obtain ⟨eA, sA⟩ := hRc _ _ _ _ _ _ hA hi'
                      have eA : Ext h0 nx [] h1 nx1 wl1 := eA
                      have eS := Ext.set (wl := wl1) (a := true) (b := .lp ⟨.busy, pe1, N1, ts1, ps1, ag1, bd1, D1⟩) eA.inv hl1 (fun h => h) (.inr rfl) hp1
                      obtain ⟨eB, sB⟩ := hRc _ _ _ _ _ _ hB eS.inv
                      have eB : Ext h1' nx1 (l :: wl1) h2 nx2 wl2 := eB
                      have eT := Ext.set (wl := wl2) (a := true) (b := .lp ⟨if xt.jump.isNone then .ready else .done, xt.jump, N2, ts2, ps2, ag2, bd2, D2⟩) eB.inv hl2 (fun h => h) (.inr rfl) hp3
                      have eAll : Ext h0 nx [] h3 nx2 (l :: wl2) := ((eA.trans eS).trans eB).trans eT
                      have hs3 : lk t h3 = upd (lk t h0) (wsOf h3 (l :: wl2)) := wsOf_lk eAll.un eAll.al
                      refine ⟨eAll.more, rfl, ?_, fun c F nn ro tys rt pos af g hP hFO hN hfmc hgv => ?_⟩
                      · show lk t' h3 = upd (lk t h0) _
                        rw [putT_lk hpt, hs3, ← upd_append]
                      · intro hcl Q s e a w K hag hR hK
                        obtain rfl : s = lk t h0 := funext fun q => hag q rfl
                        subst hP
                        have hV := valsE_ok hv
                        have hle1 := eA.le
                        have hle2 := eB.le
                        have hgv : ∀ n, nx ≤ n → n < nx2 → ¬ c.gv n := hgv
                        have hround : roundS (tt.list (fun k => k) []) (hp (lk t h0)) = lk tt h0 := by
                          funext q
                          cases q with
                          | t i =>
                            simp only [roundS, assoc_list, lk]
                            cases tt.get i <;> rfl
                          | b n => rfl
                          | l n => rfl
                        have hb3 : upd (hp (lk t2 h2)) [(.b l, .b (.lp ⟨if xt.jump.isNone then .ready else .done, xt.jump, N2, ts2, ps2, ag2, bd2, D2⟩))] = lk .e h3 := by
                          rw [hp_lk, ← lk_putB hl2 hp3]
                        refine wpIn_yield (lo := nx) (hi := nx2) (σ1 := lk t1 h1) (σ2 := lk t2 h2) (ts := tt.list (fun k => k) []) (r1 := ⟨.ready, pe1, N1, ts1, ps1, ag1, bd1, D1⟩) (r2 := ⟨st2, pe2, N2, ts2, ps2, ag2, bd2, D2⟩) (xt := xt.ex) (pe := xt.jump) hFO.w hFO.r hR hx (lk_l.2 ⟨_, hl⟩) (lk_b.2 ⟨_, hl⟩) rfl hV hN hlo (fun n hn => lk_l0.2 (hi' n hn)) ?_ hsz ?_ (lk_l.2 ⟨_, hl1⟩) (lk_b.2 ⟨_, hl1⟩) rfl ?_ (lk_l.2 ⟨_, hl2⟩) (lk_b.2 ⟨_, hl2⟩) xt.jump_ok ?_ ?_
                        · intro us tm hus htm htold
                          have hN2 : ∀ p ∈ ps.toList, p < tm.size := fun p hp => by
                            rw [htm]; simpa using List.all_eq_true.1 hps p hp
                          have ht0' : Told (hp (lk t h0)) e t0 tm := fun i v hv => by
                            rcases putAll_get ht0 hv with h4 | h4
                            · exact htold i v h4
                            · cases h4
                          obtain ⟨g1, g2⟩ := zip_ok hus hN2 htt ht0'
                          have hfold : ((ps.zip us.toArray).foldl (fun t (p, v) => t.setIfInBounds p v) tm) = ((ps.toList.zip us).foldl (fun t (p, v) => t.setIfInBounds p v) tm) := by
                            rw [← Array.foldl_toList, Array.toList_zip]
                          rw [hfold]
                          refine ⟨g1.trans htm, fun i v hv => ?_⟩
                          rw [assoc_list] at hv
                          refine ⟨g2 i v hv, fun n hn => ?_⟩
                          rcases putAll_get htt hv with h4 | h4
                          · exact hV.al hcl v (List.of_mem_zip h4).2 n hn
                          · rcases putAll_get ht0 h4 with h4 | h4
                            · refine hcl.1 (.b l) _ (lk_b.2 ⟨_, hl⟩) n ?_
                              show n ∈ D :: ts.flatMap fun x => x.2.names
                              exact List.mem_cons_of_mem _ (List.mem_flatMap.2 ⟨_, h4, hn⟩)
                            · cases h4
                        · intro c' Q' hP' hgv' hgl hN' hfm' hK'
                          rw [hround]
                          refine sA c' _ _ Q' hP' (fok_round _) hN' hfm' (fun n h5 h6 => hgv' n h5 (Nat.lt_of_lt_of_le h6 hle2)) ?_
                          rw [Ctx.fm_eq hfm']; exact hK'
                        · intro c' Q' hP' hgv' hgl hN' hfm' hK'
                          have e1 : upd (lk t1 h1) [(.b l, .b (.lp ⟨.busy, pe1, N1, ts1, ps1, ag1, bd1, D1⟩))] = lk t1 h1' := (lk_putB hl1 hp1).symm
                          have := sB c' (Fence.wide.inRound (c'.ini.id l)) (nn - 1) Q' hP' (fok_round _) hN' hfm' (fun n h5 h6 => hgv' n (Nat.le_trans hle1 h5) h6) (by rw [Ctx.fm_eq hfm']; exact hK')
                          show CW c' _ _ bd Q' (upd (lk t1 h1) [(.b l, .b (.lp ⟨.busy, pe1, N1, ts1, ps1, ag1, bd1, D1⟩))])
                          rw [e1]; exact this
                        · show BackOk c (lk t h0) nx nx2 (upd (hp (lk t2 h2)) [(.b l, .b (.lp ⟨if xt.jump.isNone then .ready else .done, xt.jump, N2, ts2, ps2, ag2, bd2, D2⟩))])
                          rw [hb3]
                          refine ⟨hgv, fun n hn => lk_l0.2 (hi' n hn), fun n hn hb => ?_, fun n hn => ?_, fun n hn => fun h => ?_⟩
                          · obtain ⟨b, hb⟩ := lk_l.1 hb
                            obtain ⟨b0, h4⟩ := eAll.rev n hn b hb
                            exact lk_l.2 ⟨b0, h4⟩
                          · rw [hfmc] at hn
                            have := List.all_eq_true.1 hfm n hn
                            split at this
                            · rename_i hg; exact ⟨lk_l.2 ⟨_, hg⟩, lk_b.2 ⟨_, hg⟩⟩
                            · cases this
                          · exact eAll.al n (fun h6 => hn (lk_l0.2 h6)) (lk_l0.1 h)
                        · show KW c K (upd (mix (lk t h0) (upd (hp (lk t2 h2)) [(.b l, .b (.lp ⟨if xt.jump.isNone then .ready else .done, xt.jump, N2, ts2, ps2, ag2, bd2, D2⟩))])) (putW d (.c (.v (.bool xt.jump.isNone)))))
                          rw [hb3, mix_lk, hs3, ← upd_append]
                          exact ⟨fun e a w hR => hK e a w hR⟩
                    · cases h
                  · cases h
                · cases h
              · cases h
            · cases h
          · cases h
        · cases h
      · cases h
    · cases h
  · cases h
end
end Go.Proofs.YtafhojmnbpegpaaGreat.EV
namespace Go.Proofs.YtafhojmnbpegpaaGreat.EV
noncomputable section
open Go.RowKit
def opCall (R : Rec) (S : ES) (X : List Nat) (o : Oper) (gk : List Key) (x : Operand) (xs : Array Operand) : Option (Tr × ES) := match opv S.s x with
  | some (.c (.f f ca)) => match R.X f with
    | none => match callE R S X o.dst x xs.toList f ca with
      | some (t, S') => some (⟨orR gk t.rd, t.ws⟩, S')
      | none => none
    | some g => match ca, valsE S.s xs.toList with
      | [], some (vs, ks) => match plainV vs with
        | some L => match g L with
          | some Z => match applyE S o.dst (.t (Z.map fun X => .inl (.v X))) .no with
            | some S' => some (⟨orR gk (kr (opk x ++ ks)), putW o.dst (.t (Z.map fun X => .inl (.v X)))⟩, S')
            | none => none
          | none => none
        | none => none
      | _, _ => none
  | some (.c (.y l)) => match yieldE R S o.dst xs.toList l with
    | some (t, S') => some (⟨orR gk t.rd, t.ws⟩, S')
    | none => none
  | _ => none
def opRest (P : Program) (S : ES) (o : Oper) (gk : List Key) (op : Op) : Option (Tr × ES) := match evalM P S.s S.nx o.dst op with
  | some (v, eff, ks) => match applyE S o.dst v eff with
    | some S' => some (⟨orR gk (kr ks), putW o.dst v ++ eff.ws S.nx⟩, S')
    | none => none
  | none => none
def opSkip (S : ES) (o : Oper) (gk : List Key) : Option (Tr × ES) := match applyE S o.dst (.c (.v undef)) .no with
  | some S' => some (⟨kr gk, putW o.dst (.c (.v undef))⟩, S')
  | none => none
/-- One operation of a region. -/
def opE (R : Rec) (P : Program) (N : Nat) (ops : Array Oper) (S : ES) (X : List Nat) (o : Oper) : Option (Tr × ES) := match dOk N o.dst, gdE ops S.s o.guard with
  | true, some (true, gk) => match o.op with
    | .call ⟨.value x, xs, _⟩ => opCall R S X o gk x xs
    | op => opRest P S o gk op
  | true, some (false, gk) => opSkip S o gk
  | _, _ => none
theorem opE_ok {P : Program} {R : Rec} (hX : SoundX P R.X) (hC : SoundC P R) (hFn : SoundF P R) {N : Nat} {ops : Array Oper} {S S' : ES} {X : List Nat} {o : Oper} {tr : Tr} (h : opE R P N ops S X o = some (tr, S')) (hi : S.Inv) :
    Ext S.h S.nx S.wl S'.h S'.nx S'.wl ∧ S'.fm = S.fm ∧ S'.s = upd S.s tr.ws ∧ ∀ (c : Ctx) (F : Fence) (nn i : Nat) (ro : Bool), c.P = P → FOk F ro → c.N = N → c.fm = S.fm → (∀ n, S.nx ≤ n → n < S'.nx → ¬ c.gv n) → ops[i]? = some o → LocalI c F nn ops i S.s tr := by
  unfold opE at h
  split at h
  · rename_i gk hN hg
    have rest : (match evalM P S.s S.nx o.dst o.op with
      | some (v, eff, ks) => match applyE S o.dst v eff with
        | some S' => some ((⟨orR gk (kr ks), putW o.dst v ++ eff.ws S.nx⟩ : Tr), S')
        | none => none
      | none => none) = some (tr, S') → Ext S.h S.nx S.wl S'.h S'.nx S'.wl ∧ S'.fm = S.fm ∧ S'.s = upd S.s tr.ws ∧ ∀ (c : Ctx) (F : Fence) (nn i : Nat) (ro : Bool), c.P = P → FOk F ro → c.N = N → c.fm = S.fm → (∀ n, S.nx ≤ n → n < S'.nx → ¬ c.gv n) → ops[i]? = some o → LocalI c F nn ops i S.s tr := fun h => by
      split at h
      · rename_i v eff ks hm
        split at h
        · rename_i S1 ha
          cases h
          obtain ⟨h1, h2, h3⟩ := applyE_ok ha hi
          refine ⟨h2, h3, h1, fun c F nn i ro hP hF hcN _ hgv ho => ?_⟩
          have hloc : LocalO c F nn ⟨o.dst, o.op, o.type, o.pos, o.after, o.guard⟩ S.s ⟨kr ks, putW o.dst v ++ eff.ws S.nx⟩ :=
            evalM_ok hP hF.w (by rw [hcN]; exact hN) (fun hf => hgv S.nx (Nat.le_refl _) (applyE_fresh ha hf)) (lk_l0.2 (hi S.nx (Nat.le_refl _))) hm
          exact hloc.under (gdE_yes hg) rfl ho
        · cases h
      · cases h
    split at h
    · rename_i x xs tys hop
      unfold opCall at h
      split at h
      · rename_i f ca hx
        split at h
        · split at h
          · rename_i t S1 hc
            cases h
            obtain ⟨h1, h2, h3, h4⟩ := callE_ok hFn hc hi hx
            refine ⟨h1, h2, h3, fun c F nn i ro hP hF hcN hfm hgv ho => ?_⟩
            have hloc : LocalO c F nn ⟨o.dst, .call ⟨.value x, xs.toList.toArray, tys⟩, o.type, o.pos, o.after, o.guard⟩ S.s t :=
              h4 c F nn tys o.type o.pos o.after o.guard hP hF.w (by rw [hcN]; exact hN) hfm hgv
            rw [Array.toArray_toList, ← hop] at hloc
            exact hloc.under (gdE_yes hg) rfl ho
          · cases h
        · rename_i g hxf
          split at h
          · rename_i vs ks hv
            split at h
            · rename_i L hL
              split at h
              · rename_i Z hZ
                split at h
                · rename_i S1 ha
                  cases h
                  obtain ⟨h1, h2, h3⟩ := applyE_ok ha hi
                  refine ⟨h2, h3, by rw [h1]; simp [Eff.ws], fun c F nn i ro hP hF hcN _ hgv ho => ?_⟩
                  have hv' := valsE_ok hv
                  rw [plainV_eq hL] at hv'
                  have hloc : LocalO c F nn ⟨o.dst, .call ⟨.value x, xs.toList.toArray, tys⟩, o.type, o.pos, o.after, o.guard⟩ S.s ⟨kr (opk x ++ ks), putW o.dst (.t (Z.map fun X => .inl (.v X)))⟩ :=
                    LocalO.ext hF.w (by rw [hcN]; exact hN) hx hv' (by subst hP; exact hX _ _ _ _ hxf hZ)
                  rw [Array.toArray_toList, ← hop] at hloc
                  exact hloc.under (gdE_yes hg) rfl ho
                · cases h
              · cases h
            · cases h
          · cases h
      · rename_i l hx
        split at h
        · rename_i t S1 hc
          cases h
          obtain ⟨h1, h2, h3, h4⟩ := yieldE_ok hC hc hi hx
          refine ⟨h1, h2, h3, fun c F nn i ro hP hF hcN hfm hgv ho => ?_⟩
          have hloc : LocalO c F nn ⟨o.dst, .call ⟨.value x, xs.toList.toArray, tys⟩, o.type, o.pos, o.after, o.guard⟩ S.s t :=
            h4 c F nn ro tys o.type o.pos o.after o.guard hP hF (by rw [hcN]; exact hN) hfm hgv
          rw [Array.toArray_toList, ← hop] at hloc
          exact hloc.under (gdE_yes hg) rfl ho
        · cases h
      · cases h
    · exact rest h
  · rename_i gk hN hg
    unfold opSkip at h
    split at h
    · rename_i S1 ha
      cases h
      obtain ⟨h1, h2, h3⟩ := applyE_ok ha hi
      refine ⟨h2, h3, by rw [h1]; simp [Eff.ws], fun c F nn i ro hP hF hcN _ hgv ho => gdE_no hg hF.w (by rw [hcN]; exact hN) ho⟩
    · cases h
  · cases h
def namesW : Ws → List Nat
  | [] => []
  | (.l n, .l true) :: r => n :: namesW r
  | _ :: r => namesW r
/-- New names of operations that need not be done before. -/
def hide (ops : Array Oper) (i nx0 : Nat) : Nat → List Tr → List Nat
  | k + 1, t :: r => bif reach ops (i + 1) i k then hide ops i nx0 k r else (namesW t.ws).filter (Nat.ble nx0) ++ hide ops i nx0 k r
  | _, _ => []
def opsE (R : Rec) (P : Program) (N : Nat) (draw : Bool) (ops : Array Oper) (nx0 : Nat) : List Oper → Nat → ES → List Tr → Option (ES × List Tr)
  | [], _, S, tr => some (S, tr)
  | o :: r, i, S, tr => match opE R P N ops S (bif draw then hide ops i nx0 i tr else []) o with
    | some (t, S') => opsE R P N draw ops nx0 r (i + 1) S' (t :: tr)
    | none => none
theorem opsE_ok {P : Program} {R : Rec} (hX : SoundX P R.X) (hC : SoundC P R) (hFn : SoundF P R) {N : Nat} {draw : Bool} {ops : Array Oper} {nx0 : Nat} : ∀ {rest : List Oper} {i : Nat} {S S' : ES} {tr tr' : List Tr}, opsE R P N draw ops nx0 rest i S tr = some (S', tr') → S.Inv →
    Ext S.h S.nx S.wl S'.h S'.nx S'.wl ∧ S'.fm = S.fm ∧ ∀ (c : Ctx) (F : Fence) (nn id : Nat) (ro : Bool) (Q : Exit → Act → World → Prop) (σ0 : Sf), c.P = P → FOk F ro → c.N = N → c.fm = S.fm → (∀ n, S.nx ≤ n → n < S'.nx → ¬ c.gv n) →
      RW c F nn id ops draw Q σ0 (i + rest.length) [] S'.s tr' → RW c F nn id ops draw Q σ0 i rest S.s tr
  | [], i, S, S', tr, tr', h, hi => by
    simp only [opsE, Option.some.injEq, Prod.mk.injEq] at h
    obtain ⟨rfl, rfl⟩ := h
    exact ⟨.refl hi, rfl, fun c F nn id ro Q σ0 _ _ _ _ _ h => h⟩
  | o :: r, i, S, S', tr, tr', h, hi => by
    simp only [opsE] at h
    split at h
    · rename_i t S1 ho
      obtain ⟨h1, h2, h3, h4⟩ := opE_ok hX hC hFn ho hi
      obtain ⟨g1, g2, g3⟩ := opsE_ok hX hC hFn h h1.inv
      refine ⟨h1.trans g1, g2.trans h2, fun c F nn id ro Q σ0 hP hF hN hfm hgv hrw => ?_⟩
      refine RW_step (fun hoi => h4 c F nn i ro hP hF hN hfm (fun n a b => hgv n a (Nat.lt_of_lt_of_le b g1.le)) hoi) ?_
      rw [← h3]
      refine g3 c F nn id ro Q σ0 hP hF hN (hfm.trans h2.symm) (fun n a b => hgv n (Nat.le_trans h1.le a) b) ?_
      rw [show i + 1 + r.length = i + (o :: r).length by simp; omega]; exact hrw
    · cases h
def regionE (R : Rec) (P : Program) (N : Nat) (ops : Array Oper) (draw : Bool) (S : ES) : Option (XT × ES) := match opsE R P N draw ops S.nx ops.toList 0 S [] with
  | some (S', tr) => match (bif draw then P.follows .mixedOrders && ordB ops tr.reverse else true) with
    | true => some (.normal, S')
    | false => none
  | none => none
/-- What is shown of code. -/
def OkC (P : Program) (N : Nat) (ro : Bool) (code : Code) (S : ES) (xt : XT) (S' : ES) : Prop :=
  Ext S.h S.nx S.wl S'.h S'.nx S'.wl ∧ ∀ (c : Ctx) (F : Fence) (nn : Nat) (Q : Exit → Act → World → Prop), c.P = P → FOk F ro → c.N = N → c.fm = S.fm → (∀ n, S.nx ≤ n → n < S'.nx → ¬ c.gv n) →
    KW { c with fm := S'.fm } (Q xt.ex) S'.s → CW c F nn code Q S.s
theorem Ctx.fm_same {c : Ctx} {S S' : ES} (h : c.fm = S.fm) (h2 : S'.fm = S.fm) : ({ c with fm := S'.fm } : Ctx) = c := Ctx.fm_eq (h.trans h2.symm)
theorem regionE_ok {P : Program} {R : Rec} (hX : SoundX P R.X) (hC : SoundC P R) (hFn : SoundF P R) {N id : Nat} {ro draw : Bool} {ops : Array Oper} {S S' : ES} {xt : XT} (h : regionE R P N ops draw S = some (xt, S')) (hi : S.Inv) : OkC P N ro (.region id ops draw) S xt S' := by
  unfold regionE at h
  split at h
  · rename_i S1 tr ho
    obtain ⟨h1, h2, h3⟩ := opsE_ok hX hC hFn ho hi
    split at h
    · rename_i hd
      cases h
      refine ⟨h1, fun c F nn Q hP hF hN hfm hgv hK => CW_region rfl (h3 c F nn id ro Q _ hP hF hN hfm hgv ?_)⟩
      rw [Ctx.fm_same hfm h2] at hK
      cases draw with
      | false => exact RW_end hK
      | true =>
        simp only [cond_true, Bool.and_eq_true] at hd
        exact RW_end_draw hF.room (by rw [hP]; exact hd.1) hd.2 hK
    · cases h
  · cases h
def loopE (R : Rec) (N : Nat) (ro : Bool) (x : Code) : Nat → ES → Option (XT × ES)
  | 0, _ => none
  | m + 1, S => match R.C N ro x S with
    | some (.normal, S') => loopE R N ro x m S'
    | r => r
theorem loopE_ok {P : Program} {R : Rec} (hC : SoundC P R) {N : Nat} {ro : Bool} {x : Code} : ∀ {m : Nat} {S S' : ES} {xt : XT}, loopE R N ro x m S = some (xt, S') → S.Inv →
    Ext S.h S.nx S.wl S'.h S'.nx S'.wl ∧ ∀ (c : Ctx) (F : Fence) (nn : Nat) (Q : Exit → Act → World → Prop), c.P = P → FOk F ro → c.N = N → c.fm = S.fm → (∀ n, S.nx ≤ n → n < S'.nx → ¬ c.gv n) →
      KW { c with fm := S'.fm } (Q xt.ex) S'.s → KW c (Code.roundsIn F nn c.P x Q m) S.s
  | 0, _, _, _, h, _ => by cases h
  | m + 1, S, S', xt, h, hi => by
    simp only [loopE] at h
    split at h
    · rename_i S1 h1
      obtain ⟨g1, g2⟩ := hC _ _ _ _ _ _ h1 hi
      obtain ⟨k1, k2⟩ := loopE_ok hC h g1.inv
      refine ⟨g1.trans k1, fun c F nn Q hP hF hN hfm hgv hK => KW_round (g2 c F nn _ hP hF hN hfm (fun n a b => hgv n a (Nat.lt_of_lt_of_le b k1.le)) ?_)⟩
      exact k2 { c with fm := S1.fm } F nn Q hP hF hN rfl (fun n a b => hgv n (Nat.le_trans g1.le a) b) hK
    · rename_i hne
      obtain ⟨g1, g2⟩ := hC _ _ _ _ _ _ h hi
      refine ⟨g1, fun c F nn Q hP hF hN hfm hgv hK => KW_round (g2 c F nn _ hP hF hN hfm hgv ?_)⟩
      cases xt with
      | normal => exact absurd h (hne _)
      | ret => exact hK
      | exit k => exact hK
end
end Go.Proofs.YtafhojmnbpegpaaGreat.EV
namespace Go.Proofs.YtafhojmnbpegpaaGreat.EV
noncomputable section
open Go.RowKit
def fcTs (l : List (Nat × V)) : Option (List (Nat × V)) := fcLs (fun x => match x with
  | (i, v) => match fcN i with
    | some j => some (j, v)
    | none => none) l
theorem fcTs_eq {l r : List (Nat × V)} (h : fcTs l = some r) : l = r :=
  fcLs_eq (fun x y h => by
    obtain ⟨i, v⟩ := x
    simp only at h
    split at h
    · rename_i j hj; cases h; rw [fcN_eq hj]
    · cases h) h
def rangeE (R : Rec) (N : Nat) (g : Operand) (ps : Array Tmp) (ag bd : Code) (S : ES) : Option (XT × ES) := match S with
  | ⟨t, h, nx, wl, fm⟩ => match opv (lk t h) g with
    | some (.c (.f gf ca)) => match ca.all (fun q => lv (lk t h) q.1), fcTs (t.list (fun k => k) []), fcN (nx + 1), fcN (nx + 2) with
      | true, some ts, some n1, some n2 => match T.put 40 h nx (true, .df) with
        | some h1 => match T.put 40 h1 n1 (true, .lp ⟨.ready, none, N, ts, ps, ag, bd, nx⟩) with
          | some h2 => match R.F gf (.c (.y n1) :: capV ca) h2 n2 with
            | some (_, h3, nx3, wl3) => match h3.get n1 with
              | some (true, .lp ⟨st, pe, N1, ts1, ps1, ag1, bd1, D1⟩) => match (match st with | .busy => false | _ => true), T.put 40 h3 n1 (true, .lp ⟨.exhausted, pe, N1, ts1, ps1, ag1, bd1, D1⟩) with
                | true, some h4 => match (nx :: fm).all (fun n => match h4.get n with | some (true, .df) => true | _ => false) with
                  | true => match pe with
                    | none => some (.normal, ⟨t, h4, nx3, n1 :: (wl3 ++ (n1 :: nx :: wl)), nx :: fm⟩)
                    | some j => R.C N false j ⟨t, h4, nx3, n1 :: (wl3 ++ (n1 :: nx :: wl)), nx :: fm⟩
                  | false => none
                | _, _ => none
              | _ => none
            | none => none
          | none => none
        | none => none
      | _, _, _, _ => none
    | _ => none
theorem rangeE_ok {P : Program} {R : Rec} (hC : SoundC P R) (hFn : SoundF P R) {N : Nat} {g : Operand} {ps : Array Tmp} {ag bd : Code} {S S' : ES} {xt : XT} (h : rangeE R N g ps ag bd S = some (xt, S')) (hi : S.Inv) : OkC P N false (.rangeFunc g ps ag bd) S xt S' := by
  obtain ⟨t, h0, nx, wl, fm⟩ := S
  simp only [rangeE] at h
  split at h
  · rename_i gf ca hg
    split at h
    · rename_i ts n1 n2 hca hts hn1 hn2
      obtain rfl := fcN_eq hn1
      obtain rfl := fcN_eq hn2
      obtain rfl := fcTs_eq hts
      split at h
      · rename_i h1 hp1
        split at h
        · rename_i h2 hp2
          split at h
          · rename_i v h3 nx3 wl3 hF
            split at h
            · rename_i st pe N1 ts1 ps1 ag1 bd1 D1 hl3
              split at h
              · rename_i h4 hst hp4
                split at h
                · rename_i hfm
                  have hi' : ∀ n, nx ≤ n → h0.get n = none := hi
                  have e1 : Ext h0 nx wl h1 (nx + 1) (nx :: wl) := Ext.new hi' rfl hp1
                  have e2 : Ext h1 (nx + 1) (nx :: wl) h2 (nx + 2) ((nx + 1) :: nx :: wl) := Ext.new e1.inv rfl hp2
                  obtain ⟨e3, ⟨t', hCT⟩, hcall⟩ := hFn _ _ _ _ _ _ _ _ hF e2.inv
                  have e3' := e3.more (wl := (nx + 1) :: nx :: wl)
                  have e4 := Ext.set (wl := wl3 ++ ((nx + 1) :: nx :: wl)) (a := true) (b := .lp ⟨.exhausted, pe, N1, ts1, ps1, ag1, bd1, D1⟩) e3.inv hl3 (fun h => h) (.inr rfl) hp4
                  have eAll := ((e1.trans e2).trans e3').trans e4
                  have g2n : h2.get (nx + 1) = some (true, .lp ⟨.ready, none, N, t.list (fun k => k) [], ps, ag, bd, nx⟩) := by rw [T.get_put _ _ _ _ _ (nx + 1) hp2, if_pos rfl]
                  have eBack : Ext h2 (nx + 2) [] h4 nx3 ((nx + 1) :: wl3) := e3.trans (Ext.set (wl := wl3) (a := true) (b := .lp ⟨.exhausted, pe, N1, ts1, ps1, ag1, bd1, D1⟩) e3.inv hl3 (fun h => h) (.inr rfl) hp4)
                  have s1 : upd (lk t h0) (wsNew nx .df) = lk t h1 := (lk_put hp1).symm
                  have s2 : upd (lk t h1) (wsNew (nx + 1) (.lp ⟨.ready, none, N, t.list (fun k => k) [], ps, ag, bd, nx⟩)) = lk t h2 := (lk_put hp2).symm
                  have s4 : upd (lk t' h3) [(.b (nx + 1), .b (.lp ⟨.exhausted, pe, N1, ts1, ps1, ag1, bd1, D1⟩))] = lk t' h4 := (lk_putB hl3 hp4).symm
                  have hle := e3.le
                  have main : ∀ (c : Ctx) (F : Fence) (nn : Nat) (Q : Exit → Act → World → Prop), c.P = P → FOk F false → c.N = N → c.fm = fm → (∀ n, nx ≤ n → n < nx3 → ¬ c.gv n) →
                      (match (generalizing := false) pe with
                        | none => KW { c with fm := nx :: c.fm } (Q .normal) (lk t h4)
                        | some j => CW { c with fm := nx :: c.fm } F nn j Q (lk t h4)) → CW c F nn (.rangeFunc g ps ag bd) Q (lk t h0) := by
                    intro c F nn Q hP hFO hN hfmc hgv hK
                    subst hP
                    refine CW_rangeOuter (v := v) (nD := nx) (nL := nx + 1) (lo := nx + 2) (hi := nx3) (ts := t.list (fun k => k) []) (h' := lk t' h3) (r' := ⟨st, pe, N1, ts1, ps1, ag1, bd1, D1⟩) hFO.w (hFO.o rfl) hcall hg (fun q hq => lv_eq (List.all_eq_true.1 hca q hq)) (fun i v hv => ?_) (hgv nx (Nat.le_refl _) (by omega)) (lk_l0.2 (hi' nx (Nat.le_refl _))) (hgv (nx + 1) (by omega) (by omega)) (lk_l0.2 (hi' (nx + 1) (by omega))) (by omega) ?_ ?_ (lk_l.2 ⟨_, hl3⟩) (lk_b.2 ⟨_, hl3⟩) (fun hb => ?_) ?_
                    · rcases T.list_mem hv with ⟨k, h5, h6⟩ | h5
                      · have h5 : k = i := h5
                        exact lk_t.2 (h5 ▸ h6)
                      · cases h5
                    · unfold loop0
                      rw [hN, s1, s2, hp_lk]; exact hCT
                    · unfold loop0
                      rw [hN, s1, s2]
                      show BackOk _ _ _ _ (upd (lk t' h3) [(.b (nx + 1), .b (.lp ⟨.exhausted, pe, N1, ts1, ps1, ag1, bd1, D1⟩))])
                      rw [s4]
                      refine ⟨fun n a b => hgv n (by omega) b, fun n hn => lk_l0.2 (e2.inv n hn), fun n hn hb => ?_, fun n hn => ?_, fun n hn h => eBack.al n (fun h6 => hn (lk_l0.2 h6)) (lk_l0.1 h)⟩
                      · obtain ⟨b, hb⟩ := lk_l.1 hb
                        obtain ⟨b0, h5⟩ := eBack.rev n hn b hb
                        exact lk_l.2 ⟨b0, h5⟩
                      · have hn : n ∈ nx :: fm := by rw [← hfmc]; exact hn
                        have := List.all_eq_true.1 hfm n hn
                        split at this
                        · rename_i hg4; exact ⟨lk_l.2 ⟨_, hg4⟩, lk_b.2 ⟨_, hg4⟩⟩
                        · cases this
                    · have hb : st = .busy := hb
                      subst hb
                      cases hst
                    · show (match (generalizing := false) pe with
                        | none => KW { c with fm := nx :: c.fm } (Q .normal) (mix (lk t h0) (upd (lk t' h3) [(.b (nx + 1), .b (.lp ⟨.exhausted, pe, N1, ts1, ps1, ag1, bd1, D1⟩))]))
                        | some j => CW { c with fm := nx :: c.fm } F nn j Q (mix (lk t h0) (upd (lk t' h3) [(.b (nx + 1), .b (.lp ⟨.exhausted, pe, N1, ts1, ps1, ag1, bd1, D1⟩))])))
                      rw [s4, mix_lk]; exact hK
                  split at h
                  · cases h
                    exact ⟨eAll, fun c F nn Q hP hFO hN hfmc hgv hK => main c F nn Q hP hFO hN hfmc hgv (by have hfmc : c.fm = fm := hfmc; rw [hfmc]; exact hK)⟩
                  · rename_i j
                    obtain ⟨k1, k2⟩ := hC _ _ _ _ _ _ h eAll.inv
                    refine ⟨eAll.trans k1, fun c F nn Q hP hFO hN hfmc hgv hK => main c F nn Q hP hFO hN hfmc (fun n a b => hgv n a (Nat.lt_of_lt_of_le b k1.le)) ?_⟩
                    have hfmc : c.fm = fm := hfmc
                    refine k2 { c with fm := nx :: c.fm } F nn Q hP hFO hN (by show nx :: c.fm = nx :: fm; rw [hfmc]) (fun n a b => hgv n (Nat.le_trans (by show nx ≤ nx3; omega) a) b) hK
                · cases h
              · cases h
            · cases h
          · cases h
        · cases h
      · cases h
    · cases h
  · cases h
def codeE (R : Rec) (P : Program) (N : Nat) (ro : Bool) (code : Code) (S : ES) : Option (XT × ES) := match code with
  | .skip => some (.normal, S)
  | .label _ => some (.normal, S)
  | .ret => some (.ret, S)
  | .exit k => some (.exit k, S)
  | .seq a b => match R.C N ro a S with
    | some (.normal, S1) => R.C N ro b S1
    | r => r
  | .cond x a b => match opv S.s x with
    | some (.c (.v (.bool true))) => R.C N ro a S
    | some (.c (.v (.bool false))) => R.C N ro b S
    | _ => none
  | .block k a => match R.C N ro a S with
    | some (.exit j, S1) => bif Nat.beq j k then some (.normal, S1) else some (.exit j, S1)
    | r => r
  | .scope a => R.C N ro a S
  | .loop a => loopE R N ro a 1000000 S
  | .region _ ops draw => regionE R P N ops draw S
  | .rangeFunc g ps ag bd => match ro with
    | true => none
    | false => rangeE R N g ps ag bd S
  | _ => none
theorem codeE_ok {P : Program} {R : Rec} (hX : SoundX P R.X) (hC : SoundC P R) (hFn : SoundF P R) {N : Nat} {ro : Bool} {code : Code} {S S' : ES} {xt : XT} (h : codeE R P N ro code S = some (xt, S')) (hi : S.Inv) : OkC P N ro code S xt S' := by
  cases code with
  | skip =>
    simp only [codeE, Option.some.injEq, Prod.mk.injEq] at h; obtain ⟨rfl, rfl⟩ := h
    exact ⟨.refl hi, fun c F nn Q _ _ _ hfm _ hK => CW_skip (by rw [Ctx.fm_eq hfm] at hK; exact hK)⟩
  | label l =>
    simp only [codeE, Option.some.injEq, Prod.mk.injEq] at h; obtain ⟨rfl, rfl⟩ := h
    exact ⟨.refl hi, fun c F nn Q _ _ _ hfm _ hK => CW_label (by rw [Ctx.fm_eq hfm] at hK; exact hK)⟩
  | ret =>
    simp only [codeE, Option.some.injEq, Prod.mk.injEq] at h; obtain ⟨rfl, rfl⟩ := h
    exact ⟨.refl hi, fun c F nn Q _ _ _ hfm _ hK => CW_ret (by rw [Ctx.fm_eq hfm] at hK; exact hK)⟩
  | exit k =>
    simp only [codeE, Option.some.injEq, Prod.mk.injEq] at h; obtain ⟨rfl, rfl⟩ := h
    exact ⟨.refl hi, fun c F nn Q _ _ _ hfm _ hK => CW_exit (by rw [Ctx.fm_eq hfm] at hK; exact hK)⟩
  | seq a b =>
    simp only [codeE] at h
    split at h
    · rename_i S1 h1
      obtain ⟨g1, g2⟩ := hC _ _ _ _ _ _ h1 hi
      obtain ⟨k1, k2⟩ := hC _ _ _ _ _ _ h g1.inv
      refine ⟨g1.trans k1, fun c F nn Q hP hF hN hfm hgv hK => CW_seq (g2 c F nn _ hP hF hN hfm (fun n x y => hgv n x (Nat.lt_of_lt_of_le y k1.le)) ?_)⟩
      have := k2 { c with fm := S1.fm } F nn Q hP hF hN rfl (fun n x y => hgv n (Nat.le_trans g1.le x) y) hK
      exact ⟨this.go⟩
    · rename_i hne
      obtain ⟨g1, g2⟩ := hC _ _ _ _ _ _ h hi
      refine ⟨g1, fun c F nn Q hP hF hN hfm hgv hK => CW_seq (g2 c F nn _ hP hF hN hfm hgv ?_)⟩
      cases xt with
      | normal => exact absurd h (hne _)
      | ret => exact hK
      | exit k => exact hK
  | cond x a b =>
    simp only [codeE] at h
    split at h
    · rename_i hx
      obtain ⟨g1, g2⟩ := hC _ _ _ _ _ _ h hi
      exact ⟨g1, fun c F nn Q hP hF hN hfm hgv hK => CW_yes hx (g2 c F nn Q hP hF hN hfm hgv hK)⟩
    · rename_i hx
      obtain ⟨g1, g2⟩ := hC _ _ _ _ _ _ h hi
      exact ⟨g1, fun c F nn Q hP hF hN hfm hgv hK => CW_no hx (g2 c F nn Q hP hF hN hfm hgv hK)⟩
    · cases h
  | block k a =>
    simp only [codeE] at h
    split at h
    · rename_i j S1 h1
      obtain ⟨g1, g2⟩ := hC _ _ _ _ _ _ h1 hi
      cases hb : Nat.beq j k with
      | true =>
        rw [hb, cond_true] at h
        cases h
        refine ⟨g1, fun c F nn Q hP hF hN hfm hgv hK => CW_block (g2 c F nn _ hP hF hN hfm hgv ⟨fun e a w hR => ?_⟩)⟩
        show (if j = k then Q .normal a w else Q (.exit j) a w)
        rw [if_pos (Nat.eq_of_beq_eq_true hb)]; exact hK.go e a w hR
      | false =>
        rw [hb, cond_false] at h
        cases h
        refine ⟨g1, fun c F nn Q hP hF hN hfm hgv hK => CW_block (g2 c F nn _ hP hF hN hfm hgv ⟨fun e a w hR => ?_⟩)⟩
        show (if j = k then Q .normal a w else Q (.exit j) a w)
        rw [if_neg (fun e => by subst e; simp at hb)]; exact hK.go e a w hR
    · rename_i hne
      obtain ⟨g1, g2⟩ := hC _ _ _ _ _ _ h hi
      refine ⟨g1, fun c F nn Q hP hF hN hfm hgv hK => CW_block (g2 c F nn _ hP hF hN hfm hgv ?_)⟩
      cases xt with
      | normal => exact hK
      | ret => exact hK
      | exit j => exact absurd h (hne _ _)
  | scope a =>
    simp only [codeE] at h
    obtain ⟨g1, g2⟩ := hC _ _ _ _ _ _ h hi
    refine ⟨g1, fun c F nn Q hP hF hN hfm hgv hK => CW_scope (g2 c F nn _ hP hF hN hfm hgv ?_)⟩
    cases xt <;> exact hK
  | loop a =>
    simp only [codeE] at h
    obtain ⟨g1, g2⟩ := loopE_ok hC h hi
    exact ⟨g1, fun c F nn Q hP hF hN hfm hgv hK => CW_rounds _ (g2 c F nn Q hP hF hN hfm hgv hK)⟩
  | region id ops draw => exact regionE_ok hX hC hFn h hi
  | rangeFunc g ps ag bd =>
    cases ro with
    | true => cases h
    | false => exact rangeE_ok hC hFn h hi
  | goto l => cases h
  | refuse s => cases h
/-- The slots in which a function begins. -/
def argT : List V → Nat → T V → Option (T V)
  | [], _, t => some t
  | v :: r, i, t => match fcV v, fcN (i + 1) with
    | some v', some j => match T.put 40 t i v' with
      | some t' => argT r j t'
      | none => none
    | _, _ => none
theorem argT_get : ∀ {l : List V} {i : Nat} {t t' : T V}, argT l i t = some t' → ∀ j, t'.get j = if i ≤ j ∧ j < i + l.length then l[j - i]? else t.get j
  | [], i, t, t', h, j => by cases h; rw [if_neg (by simp)]
  | v :: r, i, t, t', h, j => by
    simp only [argT] at h
    split at h
    · rename_i v' k hv hk
      obtain rfl := fcN_eq hk
      obtain rfl := fcV_eq hv
      split at h
      · rename_i t1 h1
        rw [argT_get h j, T.get_put _ _ _ _ _ j h1]
        by_cases h2 : i = j
        · subst h2; rw [if_neg (by omega), if_pos rfl, if_pos (by simp)]; simp
        · by_cases h3 : i + 1 ≤ j ∧ j < i + 1 + r.length
          · rw [if_pos h3, if_pos (by simp; omega), show j - i = (j - (i + 1)) + 1 by omega, List.getElem?_cons_succ]
          · rw [if_neg h3, if_neg h2, if_neg (by simp; omega)]
      · cases h
    · cases h
def nodupB : List Nat → Bool
  | [] => true
  | n :: l => !inB l n && nodupB l
theorem nodupB_ok : ∀ {l : List Nat}, nodupB l = true → l.Nodup
  | [], _ => List.nodup_nil
  | n :: l, h => by
    simp only [nodupB, Bool.and_eq_true, Bool.not_eq_true'] at h
    exact List.nodup_cons.2 ⟨inB_no.1 h.1, nodupB_ok h.2⟩
def funE (R : Rec) (P : Program) (f : FuncId) (args : List V) (h : Hp) (nx : Nat) : Option (V × Hp × Nat × List Nat) := match P.funcs[f]? with
  | some fn => match fn.body with
    | some code => match Nat.ble args.length fn.ntmps, argT args 0 .e with
      | true, some t => match R.C fn.ntmps false code ⟨t, h, nx, [], []⟩ with
        | some (xt, ⟨t1, h1, nx1, wl1, fm1⟩) => match (match xt with | .exit _ => false | _ => true), nodupB fm1, maskT h1 fm1 with
          | true, true, some h2 => match resL P (lk t1 h2) fn.results.toList with
            | some vs => match tupC vs with
              | some v => some (v, h2, nx1, fm1 ++ wl1)
              | none => none
            | none => none
          | _, _, _ => none
        | none => none
      | _, _ => none
    | none => none
  | none => none
/-- Functions are entered. -/
def Enters (P : Program) : Prop := ∀ f fn code, P.funcs[f]? = some fn → fn.body = some code → ∀ args w, (callFunc f args).run P w = .ok (.enter f args) w
theorem funE_ok {P : Program} (hE : Enters P) {R : Rec} (hC : SoundC P R) {f : FuncId} {args : List V} {h h' : Hp} {nx nx' : Nat} {v : V} {wl : List Nat} (hh : funE R P f args h nx = some (v, h', nx', wl)) (hi : ∀ n, nx ≤ n → h.get n = none) :
    Ext h nx [] h' nx' wl ∧ (∃ t', CT P f args (lk .e h) nx nx' v (lk t' h')) ∧ ∀ args w, (callFunc f args).run P w = .ok (.enter f args) w := by
  unfold funE at hh
  split at hh
  · rename_i fn hf
    split at hh
    · rename_i code hb
      split at hh
      · rename_i t hle ht
        split at hh
        · rename_i xt t1 h1 nx1 wl1 fm1 hR
          split at hh
          · rename_i h2 hxt hnd hmk
            split at hh
            · rename_i vs hvs
              split at hh
              · rename_i v' hv
                cases hh
                obtain ⟨g1, g2⟩ := hC _ _ _ _ _ _ hR hi
                have g1 : Ext h nx [] h1 nx' wl1 := g1
                have gm := maskT_get hmk
                have e2 : Ext h1 nx' wl1 h' nx' (fm1 ++ wl1) := by
                  refine ⟨Nat.le_refl _, fun n hn => ?_, fun n hn => ?_, fun n hn b hb => ?_, fun n l b hb => ?_, fun n hn => List.mem_append.2 (.inr hn), fun n hn => ?_⟩
                  · rw [gm]; split
                    · rw [g1.inv n hn]
                    · exact g1.inv n hn
                  · rw [gm]; split
                    · cases hy : h1.get n with
                      | none => exact absurd hy hn
                      | some p => simp
                    · exact hn
                  · rw [gm] at hb; split at hb
                    · split at hb <;> cases hb
                    · exact ⟨b, hb⟩
                  · rw [gm] at hb; split at hb
                    · split at hb
                      · rename_i hq; cases hb; exact .inl ⟨_, hq⟩
                      · cases hb
                    · exact .inl ⟨l, hb⟩
                  · rw [gm, if_neg (fun h => hn (List.mem_append.2 (.inl h)))]
                have hkill : killM (lk t1 h1) fm1 = lk t1 h' := by
                  have sub : ∀ {X : List Nat} {a b : Hp}, maskT a X = some b → ∀ n ∈ X, ∃ l x, a.get n = some (l, x) := by
                    intro X
                    induction X with
                    | nil => intro a b _ n hn; cases hn
                    | cons k X ih =>
                      intro a b hab n hn
                      simp only [maskT] at hab
                      split at hab
                      · rename_i l x hk
                        split at hab
                        · rename_i a1 ha1
                          rcases List.mem_cons.1 hn with rfl | hn
                          · exact ⟨_, _, hk⟩
                          · obtain ⟨l2, x2, h5⟩ := ih hab n hn
                            rw [T.get_put _ _ _ _ _ n ha1] at h5
                            split at h5
                            · rename_i e; subst e; exact ⟨_, _, hk⟩
                            · exact ⟨_, _, h5⟩
                        · cases hab
                      · cases hab
                  funext q
                  cases q with
                  | t i => rw [killM_t]; rfl
                  | b n =>
                    rw [killM_b]
                    simp only [lk]
                    rw [gm]
                    split
                    · rename_i a b hg
                      by_cases hn : n ∈ fm1 <;> simp [hn, hg]
                    · rename_i hg
                      by_cases hn : n ∈ fm1 <;> simp [hn, hg]
                  | l n =>
                    rw [killM_l]
                    simp only [lk]
                    rw [gm]
                    by_cases hn : n ∈ fm1
                    · obtain ⟨l2, x2, h5⟩ := sub hmk n hn
                      simp [hn, h5]
                    · rw [if_neg hn, if_neg hn]
                refine ⟨g1.trans e2, ⟨t1, CT.enter hf hb (by simpa using hle) fun c R' hP hgv hN hfm hret => ?_⟩, hE f fn code hf hb⟩
                have harg : argS args (lk .e h) = lk t h := by
                  funext q
                  cases q with
                  | t i =>
                    simp only [argS, lk]
                    rw [argT_get ht i]
                    by_cases hl : i < args.length
                    · rw [if_pos (by omega)]; simp only [Nat.sub_zero]
                      cases args[i]? <;> rfl
                    · rw [if_neg (by omega), List.getElem?_eq_none (by omega)]; rfl
                  | b n => rfl
                  | l n => rfl
                rw [harg]
                refine g2 c Fence.wide 0 _ hP fok_wide hN hfm hgv ?_
                refine KW_leave (c := { c with fm := fm1 }) (v := v) ?_ hP (nodupB_ok hnd) ?_ hv ?_
                · cases xt with
                  | normal => exact .inr rfl
                  | ret => exact .inl rfl
                  | exit k => cases hxt
                · show resL P (killM (lk t1 h1) fm1) _ = _
                  rw [hkill]; exact hvs
                · intro e u w hW hu hn
                  have hk2 : killM (ES.s ⟨t1, h1, nx', wl1, fm1⟩) fm1 = lk t1 h' := hkill
                  rw [show killM (ES.s ⟨t1, h1, nx', wl1, fm1⟩) ({ c with fm := fm1 } : Ctx).fm = lk t1 h' from hkill] at hW hu hn
                  exact hret e u w ⟨hW.blk, hW.sep, hW.own, hW.cl, hW.given, hW.os, hW.tape, hW.output, hW.size, hW.old⟩ hu hn
              · cases hh
            · cases hh
          · cases hh
        · cases hh
      · cases hh
    · cases hh
  · cases hh
/-- None of them. -/
def noX : FuncId → Option (List Value → Option (List Value)) := fun _ => none
theorem noX_ok {P : Program} : SoundX P noX := fun _ _ _ _ h => by cases h
/-- Names that are not the runtime's own. -/
theorem enters_of {P : Program} (h : (P.funcs.toList.all fun fn => !(fn.name == "runtime.NumGoroutine")) = true) : Enters P := by
  intro f fn code hf hb args w
  have hm : fn ∈ P.funcs.toList := by
    have := Array.getElem?_eq_some_iff.1 hf
    obtain ⟨h1, h2⟩ := this
    rw [← h2]; simp
  have hn := List.all_eq_true.1 h fn hm
  have hn : fn.name ≠ "runtime.NumGoroutine" := by simpa using hn
  simp [callFunc, go_sem, hf, hb, hn]
end
end Go.Proofs.YtafhojmnbpegpaaGreat.EV
namespace Go.Proofs.YtafhojmnbpegpaaGreat
theorem enters : EV.Enters Tryz.prog := EV.enters_of (by kernel_rfl)
end Go.Proofs.YtafhojmnbpegpaaGreat
