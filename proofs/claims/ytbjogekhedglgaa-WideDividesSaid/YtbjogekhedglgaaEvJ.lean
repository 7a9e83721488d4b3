/- A reckoner of operations that lay or change blocks, and that it is sound. No program in sight. -/
import Derived.Test.YtbjogekhedglgaaEvI
namespace Go.Proofs.Ytbjogekhedglgaa.EV
noncomputable section
open Go.RowKit

/-- What becomes of blocks: nothing; a new one; one that is changed; one that is given up for a new one. -/
inductive Eff where
  | no
  | new (b : B)
  | chg (n : Nat) (b : B)
  | steal (n : Nat) (b : B)
def Eff.ws (m : Nat) : Eff → Ws
  | .no => []
  | .new b => wsNew m b
  | .chg n b => [(.b n, .b b)]
  | .steal n b => wsSteal n m b
def Eff.fresh : Eff → Bool
  | .new _ => true
  | .steal _ _ => true
  | _ => false
/-- The cells of a value. -/
def cvE (s : Sf) : V → Option (List C × List Key)
  | .c x => match x with
    | .v X => if X.oneCell' = true then some ([.v X], []) else none
    | .f g ca => if ca.all (fun q => lv s q.1) = true then some ([.f g ca], ca.map fun q => .l q.1) else none
    | .p n o => if lv s n = true then some ([.p n o], [.l n]) else none
    | .s n o l k => if lv s n = true then some ([.s n o l k], [.l n]) else none
    | .g n o l b z => if lv s n = true then some ([.g n o l b z], [.l n]) else none
    | .y n => if lv s n = true then some ([.y n], [.l n]) else none
  | .a l => some (l, [])
  | .t _ => none
theorem cvE_ok {s : Sf} {v : V} {l : List C} {ks : List Key} (h : cvE s v = some (l, ks)) : CV s v l ks := by
  cases v with
  | c x =>
    cases x with
    | v X =>
      simp only [cvE] at h
      split at h
      · rename_i h1; cases h; exact .v h1
      · cases h
    | f g ca =>
      simp only [cvE] at h
      split at h
      · rename_i h1; cases h
        exact .f fun q hq => ⟨lv_eq (by simpa using List.all_eq_true.1 h1 q hq), List.mem_map.2 ⟨q, hq, rfl⟩⟩
      · cases h
    | p n o =>
      simp only [cvE] at h
      split at h
      · rename_i h1; cases h; exact .n rfl (lv_eq h1)
      · cases h
    | s n o l k =>
      simp only [cvE] at h
      split at h
      · rename_i h1; cases h; exact .n rfl (lv_eq h1)
      · cases h
    | g n o l b z =>
      simp only [cvE] at h
      split at h
      · rename_i h1; cases h; exact .n rfl (lv_eq h1)
      · cases h
    | y n =>
      simp only [cvE] at h
      split at h
      · rename_i h1; cases h; exact .n rfl (lv_eq h1)
      · cases h
  | a l => simp only [cvE, Option.some.injEq, Prod.mk.injEq] at h; obtain ⟨rfl, rfl⟩ := h; exact .a
  | t l => cases h
/-- A block that may be used. -/
def bl (s : Sf) (n : Nat) : Option B := if lv s n = true then (match s (.b n) with
  | some (.b b) => some b
  | _ => none) else none
theorem bl_ok {s : Sf} {n : Nat} {b : B} (h : bl s n = some b) : s (.l n) = some (.l true) ∧ s (.b n) = some (.b b) := by
  unfold bl at h
  split at h
  · rename_i h1
    split at h
    · rename_i h2; cases h; exact ⟨lv_eq h1, h2⟩
    · cases h
  · cases h
/-- Its cells. -/
def cl (s : Sf) (n : Nat) : Option (Bool × List C) := match bl s n with
  | some b => b.cellsC
  | none => none
theorem cl_ok {s : Sf} {n : Nat} {own : Bool} {l : List C} (h : cl s n = some (own, l)) : ∃ b, s (.l n) = some (.l true) ∧ s (.b n) = some (.b b) ∧ b.cellsC = some (own, l) := by
  unfold cl at h
  split at h
  · rename_i b hb; exact ⟨b, (bl_ok hb).1, (bl_ok hb).2, h⟩
  · cases h
/-- Stored into a block. -/
def storeB (b : B) (o : Nat) (vs : List C) : Option B := match b with
  | .m true l => if o + vs.length ≤ l.length then some (.m true (putL o vs l)) else none
  | .w true l => if o + vs.length ≤ l.length then (match plainL vs with
    | some L => some (.w true (putL o L l))
    | none => some (.m true (putL o vs (l.map C.v)))) else none
  | _ => none
theorem storeB_ok {b b' : B} {o : Nat} {vs : List C} (h : storeB b o vs = some b') : ∃ l, b.cellsC = some (true, l) ∧ b'.cellsC = some (true, putL o vs l) ∧ o + vs.length ≤ l.length := by
  unfold storeB at h
  split at h
  · split at h
    · rename_i hle; cases h; exact ⟨_, rfl, rfl, hle⟩
    · cases h
  · split at h
    · rename_i hle
      split at h
      · rename_i L hL
        cases h
        refine ⟨_, rfl, ?_, by simpa using hle⟩
        rw [plainL_eq hL, ← putL_map]; rfl
      · cases h; exact ⟨_, rfl, rfl, by simpa using hle⟩
    · cases h
  · cases h
def partsE (s : Sf) : List (Nat × Operand) → Option (List (Nat × List C) × List Key)
  | [] => some ([], [])
  | (i, x) :: ps => match opv s x with
    | some v => match cvE s v, partsE s ps with
      | some (l, k1), some (r, ks) => some ((i, l) :: r, k1 ++ (opk x ++ ks))
      | _, _ => none
    | none => none
theorem partsE_ok {s : Sf} : ∀ {ps : List (Nat × Operand)} {r : List (Nat × List C)} {ks : List Key}, partsE s ps = some (r, ks) → Parts s ps r ks
  | [], r, ks, h => by simp only [partsE, Option.some.injEq, Prod.mk.injEq] at h; obtain ⟨rfl, rfl⟩ := h; exact .nil
  | (i, x) :: ps, r, ks, h => by
    simp only [partsE] at h
    split at h
    · rename_i hx
      split at h
      · rename_i hl hr; cases h; exact .cons hx (cvE_ok hl) (partsE_ok hr)
      · cases h
    · cases h
/-- What is appended. -/
def srcE (s : Sf) (x : Operand) (z : Nat) : Option (Nat × List C × List Key) := match opv s x with
  | some (.c (.v (.slice none 0 _))) => some (0, [], opk x)
  | some (.c (.s n o k _)) => match cl s n with
    | some (_, l) => if o + k * z ≤ l.length then some (k, (l.drop o).take (k * z), .l n :: .b n :: opk x) else none
    | none => none
  | some (.c (.g n o k _ _)) => match cl s n with
    | some (_, l) => if o + k * z ≤ l.length then some (k, (l.drop o).take (k * z), .l n :: .b n :: opk x) else none
    | none => none
  | some (.c (.v (.string b))) => if z = 1 then some (b.data.toList.length, (b.data.toList.map u8V).map C.v, opk x) else none
  | _ => none
theorem srcE_ok {c : Ctx} {s : Sf} {x : Operand} {z k : Nat} {vs : List C} {ks : List Key} (h : srcE s x z = some (k, vs, ks)) : SrcOk c s x k z vs ks := by
  unfold srcE at h
  split at h
  · rename_i hx; cases h; exact src_nil hx
  · rename_i hx
    split at h
    · rename_i hl
      split at h
      · rename_i hle; cases h; obtain ⟨b, h1, h2, h3⟩ := cl_ok hl; exact src_s hx h1 h2 h3 hle
      · cases h
    · cases h
  · rename_i hx
    split at h
    · rename_i hl
      split at h
      · rename_i hle; cases h; obtain ⟨b, h1, h2, h3⟩ := cl_ok hl; exact src_g hx h1 h2 h3 hle
      · cases h
    · cases h
  · rename_i hx
    split at h
    · rename_i hz; cases h; subst hz; exact src_str hx
    · cases h
  · cases h
/-- Types of an append: the elements', its size, how many bytes. -/
def appE (P : Program) (t t2 : TypeId) : Option (TypeId × Nat × Nat) := match P.underlying t with
  | some (.slice el) => match (match P.underlying t2 with | some .string => true | some (.slice _) => true | _ => false), P.info? el with
    | true, some i => match i.zero with
      | some zv => if zv.cells.size = i.size then some (el, i.size, i.bytes) else none
      | none => none
    | _, _ => none
  | _ => none
theorem appE_ok {P : Program} {t t2 el : TypeId} {z by' : Nat} (h : appE P t t2 = some (el, z, by')) : ∃ i zv, ∀ need, need * by' ≤ 140737488355328 ∧ need ≤ 140737488355328 → AppT P t t2 el z i zv need := by
  unfold appE at h
  split at h
  · rename_i ht
    split at h
    · rename_i i h2 hi
      split at h
      · rename_i zv hz
        split at h
        · rename_i zl
          cases h
          refine ⟨i, zv, fun need hn => ⟨ht, ?_, hi, rfl, hz, zl, hn⟩⟩
          split at h2
          · rename_i hq; exact .inl hq
          · rename_i hq; exact .inr ⟨_, hq⟩
          · cases h2
        · cases h
      · cases h
    · cases h
  · cases h
def bytesL : List C → Option (List UInt8)
  | [] => some []
  | .v (.int .u8 (.ofNat n)) :: l => if n < 256 then (match bytesL l with
    | some r => some (UInt8.ofNat n :: r)
    | none => none) else none
  | _ :: _ => none
theorem bytesL_ok : ∀ {l : List C} {r : List UInt8}, bytesL l = some r → l = (r.map u8V).map C.v
  | [], r, h => by simp only [bytesL, Option.some.injEq] at h; subst h; rfl
  | x :: l, r, h => by
    unfold bytesL at h
    split at h
    · cases h; rename_i h; cases h
    · rename_i n l' he
      cases he
      split at h
      · rename_i hn
        split at h
        · rename_i r' hr
          cases h
          rw [bytesL_ok hr]
          have e : (UInt8.ofNat n).toNat = n := by rw [UInt8.toNat_ofNat']; exact Nat.mod_eq_of_lt hn
          simp only [List.map_cons]
          rw [show u8V (UInt8.ofNat n) = .int .u8 (.ofNat n) by unfold u8V; rw [e]; rfl]
        · cases h
      · cases h
    · cases h
/-- A slice's block, first cell, length. -/
def sl : V → Option (Nat × Nat × Nat)
  | .c (.s n o l _) => some (n, o, l)
  | .c (.g n o l _ _) => some (n, o, l)
  | _ => none
theorem sl_ok {v : V} {n o l : Nat} (h : sl v = some (n, o, l)) : ∃ y, v = .c y ∧ ((∃ cap, y = .s n o l cap) ∨ ∃ lb z, y = .g n o l lb z) := by
  unfold sl at h
  split at h
  · cases h; exact ⟨_, rfl, .inl ⟨_, rfl⟩⟩
  · cases h; exact ⟨_, rfl, .inr ⟨_, _, rfl⟩⟩
  · cases h
def eM_append (P : Program) (s : Sf) (m : Nat) (xs : Array Operand) (ts : Array TypeId) : Option (V × Eff × List Key) := match xs.toList, ts.toList with
  | [x, y], [t, t2] => match appE P t t2 with
    | some (_, z, by') => match srcE s y z, opv s x with
      | some (k, vs, ks), some (.c (.g n o len _ z')) => match cl s n with
        | some (true, l) => if z = z' ∧ o + len * z ≤ l.length ∧ (len + k) * by' ≤ 140737488355328 ∧ len + k ≤ 140737488355328 then
          some (.c (.g m 0 (len + k) (len + k) z), .steal n (.m true ((l.drop o).take (len * z) ++ vs)), .l m :: .l n :: .b n :: (ks ++ opk x)) else none
        | _ => none
      | some (k, vs, ks), some (.c (.s n o len cap)) => match len, cap with
        | 0, 0 => if lv s n = true ∧ (0 + k) * by' ≤ 140737488355328 ∧ 0 + k ≤ 140737488355328 then some (.c (.g m 0 k k z), .new (.m true vs), .l m :: .l n :: (ks ++ opk x)) else none
        | _, _ => match cl s n with
          | some (true, l) => if len ≤ cap ∧ cap ≤ 140737488355328 ∧ o + cap * z ≤ l.length ∧ (len + k) * by' ≤ 140737488355328 ∧ len + k ≤ 140737488355328 then
            some (.c (.g m 0 (len + k) (len + k) z), .steal n (.m true ((l.drop o).take (len * z) ++ vs)), .l m :: .l n :: .b n :: (ks ++ opk x)) else none
          | _ => none
      | some (k, vs, ks), some (.c (.v (.slice _ 0 0))) => if (0 + k) * by' ≤ 140737488355328 ∧ 0 + k ≤ 140737488355328 then some (.c (.g m 0 k k z), .new (.m true vs), .l m :: (ks ++ opk x)) else none
      | _, _ => none
    | none => none
  | _, _ => none
def eM_copy (P : Program) (s : Sf) (m : Nat) (xs : Array Operand) (ts : Array TypeId) : Option (V × Eff × List Key) := match xs.toList, ts.toList with
  | [x, y], [t, _] => match P.underlying t with
    | some (.slice el) => match tS P el, opv s x, opv s y with
      | some z, some v, some v2 => match v2 with
        | .c (.v (.slice none 0 _)) => match sl v with
          | some (n, o, _) => match bl s n with
            | some b => match storeB b o [] with
              | some b' => some (.c (.v (.int .i64 (0 : Nat))), .chg n b', .l n :: .b n :: (opk y ++ opk x))
              | none => none
            | none => none
          | none => none
        | v2 => match sl v, sl v2 with
          | some (n, o, len), some (n2, o2, k) => match bl s n, cl s n2 with
            | some b, some (_, l2) => match storeB b o ((l2.drop o2).take (Nat.min k len * z)) with
              | some b' => if o2 + Nat.min k len * z ≤ l2.length then some (.c (.v (.int .i64 (Nat.min k len))), .chg n b', .l n :: .b n :: ((.l n2 :: .b n2 :: opk y) ++ opk x)) else none
              | none => none
            | _, _ => none
          | _, _ => none
      | _, _, _ => none
    | _ => none
  | _, _ => none
def eM_alloc (P : Program) (s : Sf) (m : Nat) (d : Option Tmp) (t : TypeId) : Option (V × Eff × List Key) := match zeroC P t with
    | some zs => some (.c (.p m 0), .new (.m true (zs.map C.v)), [.l m])
    | none => none
def eM_box (P : Program) (s : Sf) (m : Nat) (d : Option Tmp) (x : Operand) : Option (V × Eff × List Key) := match opv s x with
    | some v => match cvE s v with
      | some (l, ks) => some (.c (.p m 0), .new (.m true l), .l m :: (ks ++ opk x))
      | none => none
    | none => none
def eM_load (P : Program) (s : Sf) (m : Nat) (d : Option Tmp) (t : TypeId) (x : Operand) : Option (V × Eff × List Key) := match opv s x with
    | some (.c (.p n o)) => match cl s n, tRow P t with
      | some (_, l), some false => match l[o]? with
        | some z => some (.c z, .no, .l n :: .b n :: opk x)
        | none => none
      | some (_, l), some true => match tS P t with
        | some k => if o + k ≤ l.length then some (.a ((l.drop o).take k), .no, .l n :: .b n :: opk x) else none
        | none => none
      | _, _ => none
    | _ => none
def eM_store (P : Program) (s : Sf) (m : Nat) (d : Option Tmp) (t : TypeId) (x : Operand) (y : Operand) : Option (V × Eff × List Key) := match d, opv s x, opv s y with
    | none, some (.c (.p n o)), some v => match bl s n, cvE s v, tS P t with
      | some b, some (vs, ks), some k => match storeB b o vs with
        | some b' => if k = vs.length ∧ vs ≠ [] then some (v, .chg n b', .l n :: .b n :: (ks ++ (opk x ++ opk y))) else none
        | none => none
      | _, _, _ => none
    | _, _, _ => none
def eM_build (P : Program) (s : Sf) (m : Nat) (d : Option Tmp) (t : TypeId) (ps : Array (Nat × Operand)) : Option (V × Eff × List Key) := match buildC P t, partsE s ps.toList with
    | some (zs, place), some (r, ks) => match fillC place (zs.map C.v) r with
      | some out => some (.a out, .no, ks)
      | none => none
    | _, _ => none
def eM_buildSlice (P : Program) (s : Sf) (m : Nat) (d : Option Tmp) (t : TypeId) (len : Nat) (ps : Array (Nat × Operand)) : Option (V × Eff × List Key) := match P.underlying t, partsE s ps.toList with
    | some (.slice el), some (r, ks) => match zeroC P el, tS P el with
      | some zs, some k => match fillC (fun i => some (i * k, k)) ((timesL zs len).map C.v) r with
        | some out => if zs.length = k ∧ k ≠ 0 ∧ len * k ≤ 16777216 then some (.c (.s m 0 len len), .new (.m true out), .l m :: ks) else none
        | none => none
      | _, _ => none
    | _, _ => none
def eM_makeSlice (P : Program) (s : Sf) (m : Nat) (d : Option Tmp) (t : TypeId) (x : Operand) (y : Operand) : Option (V × Eff × List Key) := match opv s x, opv s y, P.underlying t with
    | some (.c (.v (.int _ li))), some (.c (.v (.int _ ci))), some (.slice el) => match zeroC P el, tS P el, P.info? el with
      | some zs, some k, some i => if zs.length = k ∧ k ≠ 0 ∧ 0 ≤ li ∧ li ≤ ci ∧ ci ≤ 281474976710656 ∧ i.bytes * ci ≤ 281474976710656 then some (.c (.s m 0 li.toNat ci.toNat), .new (.w true (timesL zs ci.toNat)), .l m :: (opk x ++ opk y)) else none
      | _, _, _ => none
    | _, _, _ => none
def eM_convert (P : Program) (s : Sf) (m : Nat) (d : Option Tmp) (src : TypeId) (dst : TypeId) (x : Operand) : Option (V × Eff × List Key) := match evalP P s (.convert src dst x) with
    | some (v, ks) => some (v, .no, ks)
    | none => match opv s x, P.underlying src, P.underlying dst with
      | some (.c (.v (.slice none 0 _))), some (.slice el), some .string => match P.underlying el with
        | some (.int .u8) => some (.c (.v (.string ⟨#[]⟩)), .no, opk x)
        | _ => none
      | some (.c (.v (.string b))), some _, some (.slice el) => match P.underlying el with
        | some (.int .u8) => if b.data.toList.length ≤ 140737488355328 then some (.c (.g m 0 b.data.toList.length b.data.toList.length 1), .new (.w true (b.data.toList.map u8V)), .l m :: opk x) else none
        | _ => none
      | some (.c (.s n o len cap)), some (.slice _), some (.slice el) => match Nat.beq src dst, P.underlying el, bl s n with
        | true, some (.int .u8), some b => match b.cellsC with
          | some (true, _ :: _) => if 0 < len + cap then some (.c (.s n o len cap), .chg n b, .l n :: .b n :: opk x) else none
          | _ => none
        | _, _, _ => none
      | some v, some (.slice el), some .string => match P.underlying el, sl v with
        | some (.int .u8), some (n, o, len) => match cl s n with
          | some (_, l) => match bytesL ((l.drop o).take len) with
            | some bs => if o + len ≤ l.length then some (.c (.v (.string ⟨bs.toArray⟩)), .no, .l n :: .b n :: opk x) else none
            | none => none
          | none => none
        | _, _ => none
      | _, _, _ => none
def eM_call (P : Program) (s : Sf) (m : Nat) (d : Option Tmp) (b : Builtin) (xs : Array Operand) (ts : Array TypeId) : Option (V × Eff × List Key) := match b with
    | .append => eM_append P s m xs ts
    | .copy => eM_copy P s m xs ts
    | b => match evalP P s (.call ⟨.builtin b, xs, ts⟩) with
      | some (v, ks) => some (v, .no, ks)
      | none => none
/-- What an operation yields, what becomes of blocks, what it reads; m is the next name. -/
def evalM (P : Program) (s : Sf) (m : Nat) (d : Option Tmp) : Op → Option (V × Eff × List Key)
  | .alloc t => eM_alloc P s m d t
  | .box _ x => eM_box P s m d x
  | .load t x => eM_load P s m d t x
  | .store t x y => eM_store P s m d t x y
  | .build t ps => eM_build P s m d t ps
  | .buildSlice t len ps => eM_buildSlice P s m d t len ps
  | .makeSlice t x y => eM_makeSlice P s m d t x y
  | .convert src dst x => eM_convert P s m d src dst x
  | .call ⟨.builtin b, xs, ts⟩ => eM_call P s m d b xs ts
  | op => match evalP P s op with
    | some (v, ks) => some (v, .no, ks)
    | none => none
end
end Go.Proofs.Ytbjogekhedglgaa.EV
