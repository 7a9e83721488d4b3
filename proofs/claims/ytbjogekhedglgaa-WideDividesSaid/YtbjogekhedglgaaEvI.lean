/- The reckoner is sound: what it says an operation yields, it yields. No program in sight. -/
import Derived.Test.YtbjogekhedglgaaEvG
import Derived.Test.YtbjogekhedglgaaEvH
namespace Go.Proofs.Ytbjogekhedglgaa.EV
noncomputable section
open Go.RowKit
open SX (eqs)

section
variable {P : Program} {s : Sf}
theorem arr0 {α : Type} {x : Array α} (h : x.toList = []) : x = #[] := by cases x; simp at h; subst h; rfl
theorem arr1 {α : Type} {x : Array α} {y : α} (h : x.toList = [y]) : x = #[y] := by cases x; simp at h; subst h; rfl
theorem evalP_slice {t : TypeId} {x : Operand} {lo hi mx : Option Operand} {v : V} {ks : List Key} (h : evalP P s (.slice t x lo hi mx) = some (v, ks)) : PO P s (.slice t x lo hi mx) v ks := by
  simp only [evalP, eP_slice] at h
  split at h
  · rename_i hx hu h1 h2 h3
    split at h
    · rename_i hz hb
      split at h
      · rename_i ha
        cases h
        obtain ⟨b1, b2, b3⟩ := bndE_ok hb
        exact .sliceS hx (lv_eq ha) (optI_ok h1) (optI_ok h2) (optI_ok h3) hu hz b1 b2 b3
      · cases h
    · cases h
  · rename_i hx hu h1 h2 h3
    split at h
    · rename_i z' hz
      split at h
      · rename_i l h' m' hb
        split at h
        · rename_i ha
          obtain ⟨ha, rfl⟩ := ha
          cases h
          obtain ⟨b1, b2, b3⟩ := bndE_ok hb
          have hm := b1.1
          simp only at hm
          subst hm
          exact .sliceG hx (lv_eq ha) (optI_ok h1) (optI_ok h2) hu hz b1 b2
        · cases h
      · cases h
    · rename_i z' z0 hz
      split at h
      · rename_i l h' m' hb
        split at h
        · rename_i ha
          obtain ⟨ha, rfl⟩ := ha
          cases h
          obtain ⟨b1, b2, b3⟩ := bndE_ok hb
          exact .sliceG3 hx (lv_eq ha) (optI_ok h1) (optI_ok h2) (optI_ok h3) hu hz b1 b2 b3
        · cases h
      · cases h
    · cases h
  · rename_i hx hu h1 h2 h3
    split at h
    · rename_i hz hb
      split at h
      · rename_i ha
        cases h
        obtain ⟨b1, b2, b3⟩ := bndE_ok hb
        exact .sliceP hx (lv_eq ha) (optI_ok h1) (optI_ok h2) (optI_ok h3) hu hz b1 b2 b3
      · cases h
    · cases h
  · rename_i hx hu h1 h2 h3
    split at h
    · rename_i hz hb
      cases h
      obtain ⟨b1, b2, b3⟩ := bndE_ok hb
      exact .sliceN hx (optI_ok h1) (optI_ok h2) (optI_ok h3) hu hz b1 b2 b3
    · cases h
  · rename_i hx hu h1 h2 h3
    split at h
    · rename_i hb
      cases h
      obtain ⟨b1, b2, b3⟩ := bndE_ok hb
      have hm := b1.1
      simp only at hm
      subst hm
      exact .sliceT hx (optI_ok h1) (optI_ok h2) hu b1
    · cases h
  · cases h
theorem evalP_call {q : Call} {v : V} {ks : List Key} (h : evalP P s (.call q) = some (v, ks)) : PO P s (.call q) v ks := by
  obtain ⟨cal, xs, ts⟩ := q
  cases cal with
  | builtin b =>
    cases b <;> simp only [evalP, eP_call] at h <;> try cases h
    case len =>
      split at h
      · rename_i x t hx ht
        obtain rfl := arr1 hx
        obtain rfl := arr1 ht
        split at h
        · rename_i h1 h2
          split at h
          · rename_i ha; cases h; exact .lenS h1 (lv_eq ha) h2
          · cases h
        · rename_i h1 h2
          split at h
          · rename_i ha; cases h; exact .lenG h1 (lv_eq ha) h2
          · cases h
        · rename_i h1 h2; cases h; exact .lenT h1 h2
        · rename_i h1 h2; cases h; exact .lenN h1 h2
        · cases h
      · cases h
    case cap =>
      split at h
      · rename_i x t hx ht
        obtain rfl := arr1 hx
        obtain rfl := arr1 ht
        split at h
        · rename_i h1 h2
          split at h
          · rename_i ha; cases h; exact .capS h1 (lv_eq ha) h2
          · cases h
        · cases h
      · cases h
    case min =>
      split at h
      · rename_i l ks' hv
        split at h
        · rename_i L hL
          split at h
          · rename_i Z hZ
            cases h
            have := valsE_ok hv
            rw [plainV_eq hL] at this
            have h2 := PO.mins (P := P) (ty := ts) this hZ
            rwa [Array.toArray_toList] at h2
          · cases h
        · cases h
      · cases h
    case max =>
      split at h
      · rename_i l ks' hv
        split at h
        · rename_i L hL
          split at h
          · rename_i Z hZ
            cases h
            have := valsE_ok hv
            rw [plainV_eq hL] at this
            have h2 := PO.maxs (P := P) (ty := ts) this hZ
            rwa [Array.toArray_toList] at h2
          · cases h
        · cases h
      · cases h
  | _ => cases h
theorem binE_ok {op : BinOp} {t ty : TypeId} {x y : Operand} {v : V} {ks : List Key} (h : binE P s op t x y = some (v, ks)) : PO P s (.binOp op t x y ty) v ks := by
  unfold binE at h
  split at h
  · rename_i hx hy
    split at h
    · rename_i hz; cases h; exact .bin hx hy hz
    · cases h
  · rename_i hx hy
    split at h
    · rename_i hL hM
      split at h
      · rename_i he
        split at h
        · cases h; exact .eqA hx hy hL hM he
        · cases h; exact .neA hx hy hL hM he
        · cases h
      · cases h
    · cases h
  · rename_i hx hy
    split at h
    · rename_i hu
      split at h
      · rename_i ha
        split at h
        · cases h; exact .eqN hx (lv_eq ha) hy hu
        · cases h; exact .neN hx (lv_eq ha) hy hu
        · cases h
      · cases h
    · cases h
  · cases h
theorem nilE_ok {x : Operand} {t : TypeId} {Y : Value} {b : Bool} {ks : List Key} (h : nilE P s x t Y = some (b, ks)) : NilT P s x t Y b ks := by
  unfold nilE at h
  split at h
  · rename_i hu
    split at h
    · rename_i hx
      split at h
      · rename_i ha; cases h
        exact .f hx (fun q hq => ⟨lv_eq (by simpa using List.all_eq_true.1 ha q hq), List.mem_map.2 ⟨q, hq, rfl⟩⟩) hu
      · cases h
    · rename_i hx
      split at h
      · rename_i ha; cases h; exact .y hx (lv_eq ha) hu
      · cases h
    · rename_i hx; cases h; exact .vF hx hu
    · cases h
  · rename_i hu
    split at h
    · rename_i hx
      split at h
      · rename_i ha; cases h; exact .s hx (lv_eq ha.1) ha.2 hu
      · cases h
    · rename_i hx
      split at h
      · rename_i ha; cases h; exact .g hx (lv_eq ha.1) ha.2 hu
      · cases h
    · rename_i hx; cases h; exact .vS hx hu
    · cases h
  · rename_i hu
    split at h
    · rename_i hx; cases h; exact .vP hx hu
    · cases h
  · cases h
theorem evalP_ok {op : Op} {v : V} {ks : List Key} (h : evalP P s op = some (v, ks)) : PO P s op v ks := by
  cases op with
  | slice t x lo hi mx => exact evalP_slice h
  | call q => exact evalP_call h
  | move x =>
    simp only [evalP, eP_move] at h
    split at h
    · rename_i hx; cases h; exact .move hx
    · cases h
  | assign x =>
    simp only [evalP, eP_assign] at h
    split at h
    · rename_i hx; cases h; exact .assign hx
    · cases h
  | pick x y z =>
    simp only [evalP, eP_pick] at h
    split at h
    · rename_i hx
      split at h
      · rename_i hy; cases h; exact .pickT hx hy
      · cases h
    · rename_i hx
      split at h
      · rename_i hy; cases h; exact .pickF hx hy
      · cases h
    · cases h
  | extract x i =>
    simp only [evalP, eP_extract] at h
    split at h
    · rename_i hx
      split at h
      · rename_i hy; cases h; exact .extC hx hy
      · rename_i hy; cases h; exact .extA hx hy
      · cases h
    · cases h
  | field t x i =>
    simp only [evalP, eP_field] at h
    split at h
    · rename_i hx hu
      split at h
      · rename_i hf
        split at h
        · rename_i hp; cases h; exact .field hx hu hf hp
        · cases h
      · cases h
    · cases h
  | index t x y =>
    simp only [evalP, eP_index] at h
    split at h
    · rename_i hx hy hu
      split at h
      · rename_i hz
        split at h
        · rename_i hj
          split at h
          · rename_i hp; cases h; exact .index hx hy hu hz hj hp
          · cases h
        · cases h
      · cases h
    · rename_i hx hy hu
      split at h
      · rename_i hj
        split at h
        · rename_i hp; cases h; exact .indexS hx hy hu hj hp
        · cases h
      · cases h
    · cases h
  | makeFunc f first xs =>
    cases f with
    | func g =>
      simp only [evalP, eP_makeFunc] at h
      split at h
      · rename_i h1 h2
        cases h
        obtain rfl := arr0 h1
        have := PO.func (P := P) (g := g) (capsE_ok h2)
        rwa [Array.toArray_toList] at this
      · cases h
    | _ => cases h
  | fieldAddr t x i =>
    simp only [evalP, eP_fieldAddr] at h
    split at h
    · rename_i hx hu
      split at h
      · rename_i hf
        split at h
        · rename_i hk
          split at h
          · rename_i ha; cases h; exact .fieldAddr hx (lv_eq ha.1) hu hf hk ha.2
          · cases h
        · cases h
      · cases h
    · cases h
  | indexAddr t x y =>
    simp only [evalP, eP_indexAddr] at h
    split at h
    · rename_i hx hy hu
      split at h
      · rename_i hz
        split at h
        · rename_i ha; cases h; exact .indexAddr hx (lv_eq ha.1) hy hu hz ha.2
        · cases h
      · cases h
    · rename_i hx hy hu
      split at h
      · rename_i hz
        split at h
        · rename_i ha; cases h; exact .indexAddrS hx (lv_eq ha.1) hy hu hz ha.2
        · cases h
      · cases h
    · rename_i hx hy hu
      split at h
      · rename_i hz
        split at h
        · rename_i ha; cases h; exact .indexAddrG hx (lv_eq ha.1) hy hu hz ha.2
        · cases h
      · cases h
    · cases h
  | nilCheck x =>
    simp only [evalP, eP_nilCheck] at h
    split at h
    · rename_i hx
      split at h
      · rename_i ha; cases h; exact .nilCheck hx (lv_eq ha)
      · cases h
    · rename_i hx; cases h; exact .nilCheckP hx
    · rename_i hx
      split at h
      · rename_i ha
        cases h
        refine .nilCheckF hx fun q hq => ⟨?_, List.mem_map.2 ⟨q, hq, rfl⟩⟩
        have := List.all_eq_true.1 ha q hq
        exact lv_eq (by simpa using this)
      · cases h
    · rename_i hx
      split at h
      · rename_i ha; cases h; exact .nilCheckY hx (lv_eq ha)
      · cases h
    · cases h
  | unOp op t x =>
    simp only [evalP, eP_unOp] at h
    split at h
    · rename_i hx
      split at h
      · rename_i hz; cases h; exact .un hx hz
      · cases h
    · cases h
  | binOp op t x y ty =>
    simp only [evalP, eP_binOp] at h
    split at h
    · rename_i hb; cases h; exact binE_ok hb
    · split at h
      · rename_i hy
        split at h
        · rename_i hn hb2; cases h; exact .nilEq (nilE_ok hn) hy
        · rename_i hn hb2; cases h; exact .nilNe (nilE_ok hn) hy
        · cases h
      · cases h
  | convert src dst x =>
    simp only [evalP, eP_convert] at h
    split at h
    · rename_i hx hs hd; cases h; exact .conv hx hs hd
    · rename_i hx hs hd; cases h; exact .convS hx hs hd
    · cases h
  | _ => cases h
end
end
end Go.Proofs.Ytbjogekhedglgaa.EV
