/- Walking over named blocks: rows of records whose number is not known; blocks of plain values. No program in sight. -/
import Derived.Test.YtbjogekhedglgaaEw3
namespace Go.Proofs.Ytbjogekhedglgaa.EW
set_option linter.unusedSimpArgs false
set_option linter.unusedVariables false
open Go.RowKit EV
open SX (Is)

/-- Values that stand in rows. -/
class RowV (L : List Value) (z : outParam Nat) (n : outParam Nat) (row : outParam (Nat → List Value)) : Prop where
  len' : L.length = n * z
  cut' : ∀ j, j < n → (L.drop (j * z)).take z = row j
/-- Cells that stand in rows. -/
class RowL (l : List C) (z : outParam Nat) (n : outParam Nat) (row : outParam (Nat → List C)) : Prop where
  len' : l.length = n * z
  cut' : ∀ j, j < n → (l.drop (j * z)).take z = row j
instance {L : List Value} {z n : Nat} {row : Nat → List Value} [h : RowV L z n row] : RowL (L.map C.v) z n (fun j => (row j).map C.v) :=
  ⟨by simpa using h.len', fun j hj => by rw [← List.map_drop, ← List.map_take, h.cut' j hj]⟩
section
variable {l : List C} {z n : Nat} {row : Nat → List C}
theorem RowL.len [h : RowL l z n row] : l.length = n * z := h.len'
theorem RowL.cut [h : RowL l z n row] {j : Nat} (hj : j < n) : Is ((l.drop (j * z)).take z) (row j) := ⟨h.cut' j hj⟩
theorem RowL.cut0 [h : RowL l z n row] (hj : 0 < n) : Is ((l.drop 0).take z) (row 0) := ⟨by simpa using h.cut' 0 hj⟩
theorem RowL.cutA [h : RowL l z n row] {a j : Nat} (hj : a + j < n) : Is ((l.drop (a * z + j * z)).take z) (row (a + j)) := ⟨by rw [← Nat.add_mul]; exact h.cut' _ hj⟩
end
theorem RowV.len {L : List Value} {z n : Nat} {row : Nat → List Value} [h : RowV L z n row] : L.length = n * z := h.len'
/-- Cells of which each is told. -/
class ElemV (L : List Value) (n : outParam Nat) (el : outParam (Nat → Value)) : Prop where
  len' : L.length = n
  get' : ∀ j, j < n → L[j]? = some (el j)
class Elems (l : List C) (n : outParam Nat) (el : outParam (Nat → C)) : Prop where
  len' : l.length = n
  get' : ∀ j, j < n → l[j]? = some (el j)
instance {L : List Value} {n : Nat} {el : Nat → Value} [h : ElemV L n el] : Elems (L.map C.v) n (fun j => C.v (el j)) :=
  ⟨by simpa using h.len', fun j hj => by rw [List.getElem?_map, h.get' j hj]; rfl⟩
theorem Elems.len {l : List C} {n : Nat} {el : Nat → C} [h : Elems l n el] : l.length = n := h.len'
theorem Elems.get {l : List C} {n : Nat} {el : Nat → C} [h : Elems l n el] {j : Nat} (hj : j < n) : l[j]? = some (el j) := h.get' j hj
theorem ElemV.len {L : List Value} {n : Nat} {el : Nat → Value} [h : ElemV L n el] : L.length = n := h.len'

theorem joinAll {L us : List Value} {n : Nat} (h : n = L.length) : Is ((L.drop 0).take n ++ us) (L ++ us) := ⟨by rw [h]; simp⟩
theorem takeAll {L : List Value} {n : Nat} (h : n = L.length) : Is ((L.drop 0).take n) L := ⟨by rw [h]; simp⟩
/-! ### Blocks of plain values -/
theorem PlL.drop {l : List C} {L : List Value} (h : PlL l L) (n : Nat) : PlL (l.drop n) (L.drop n) := by rw [h.eq, ← List.map_drop]; exact .map _
theorem PlL.take {l : List C} {L : List Value} (h : PlL l L) (n : Nat) : PlL (l.take n) (L.take n) := by rw [h.eq, ← List.map_take]; exact .map _
section
variable {c : Ctx} {F : Fence} {nn : Nat} {id : Nat} {ops : Array Oper} {draw : Bool} {Q : Exit → Act → World → Prop} {σ0 σ : Sf} {i : Nat} {rest : List Oper} {tr : List Tr} {sup : List Nat}
theorem eStoreW [hF : WideLike F] {n o k : Nat} {t : TypeId} {x y : Operand} {v : V} {L us L' : List Value} {vs : List C} {ks : List Key} {rt : TypeId} {pos : String} {af : Array Edge} {g : Option (Nat × Bool)} {gk : List Key}
    (hr : RX c F nn id ops draw Q σ0 (i + 1) rest (upd σ ([(.b n, .b (.w true L'))])) (⟨orR gk (kr (.l n :: .b n :: (ks ++ (opk x ++ opk y)))), [(.b n, .b (.w true L'))]⟩ :: tr) sup)
    (hG : autoParam (GOk ops σ g gk) aGOK._auto_1) (hx : opv σ x = some (.c (.p n o)) := by rfl) (ha : σ (.l n) = some (.l true) := by rfl) (hb : σ (.b n) = some (.b (.w true L)) := by rfl) (hy : opv σ y = some (v) := by rfl) (hv : autoParam (CV σ v vs ks) aCV._auto_1) (hp : autoParam (PlL vs us) aPLX._auto_1) (hk : tS c.P t = some k := by rfl) (hvk : autoParam (vs.length = k) aLEN._auto_1) (hle : autoParam (o + k ≤ L.length) aLENV._auto_1) (h0 : autoParam (vs ≠ []) aNE._auto_1) (hl' : autoParam (Is (putL o us L) L') aPUTW._auto_1) :
    RX c F nn id ops draw Q σ0 i (⟨none, .store t x y, rt, pos, af, g⟩ :: rest) σ tr sup := RX_o (t := ⟨kr (.l n :: .b n :: (ks ++ (opk x ++ opk y))), [(.b n, .b (.w true L'))]⟩) hr hG (LocalO.store hF hx ha hb rfl hy hv (hvk ▸ hk) (by rw [List.length_map, hvk]; exact hle) h0 (by rw [← hl'.eq, hp.eq, ← putL_map]; rfl))
theorem eAppGW [hF : WideLike F] {d : Tmp} {n m o len lb k z len' : Nat} {x y : Operand} {t t2 el : TypeId} {vs : List C} {L us L' : List Value} {ks : List Key} {ti : TypeInfo} {zv : Value} {rt : TypeId} {pos : String} {af : Array Edge} {g : Option (Nat × Bool)} {gk : List Key}
    (hr : RX c F nn id ops draw Q σ0 (i + 1) rest (upd σ ((.t d, .v (.c (.g m 0 len' len' z))) :: (.l n, .l false) :: (.l m, .l true) :: (.b m, .b (.w true L')) :: [])) (⟨orR gk (kr (.l m :: .l n :: .b n :: (ks ++ opk x))), (.t d, .v (.c (.g m 0 len' len' z))) :: (.l n, .l false) :: (.l m, .l true) :: (.b m, .b (.w true L')) :: []⟩ :: tr) sup)
    (hG : autoParam (GOk ops σ g gk) aGOK._auto_1) (hx : opv σ x = some (.c (.g n o len lb z)) := by rfl) (ha : σ (.l n) = some (.l true) := by rfl) (hb : σ (.b n) = some (.b (.w true L)) := by rfl) (hle : autoParam (o + len * z ≤ L.length) aLENV._auto_1) (ht : c.P.underlying t = some (.slice el) := by rfl) (hz : tS c.P el = some z := by rfl) (hs : autoParam (SrcOk c σ y k z vs ks) aSRC._auto_1) (hp : autoParam (PlL vs us) aPLX._auto_1) (hT : autoParam (AppT c.P t t2 el z ti zv (len + k)) aAPPT._auto_1) (hm : autoParam (¬ c.gv m) aGVN._auto_1) (hn : σ (.l m) = none := by rfl) (e1 : autoParam (Is (len + k) len') aOFF._auto_1) (e2 : autoParam (Is ((L.drop o).take (len * z) ++ us) L') aJOINW._auto_1) (hN : dOk c.N (some d) = true := by rfl) :
    RX c F nn id ops draw Q σ0 i (⟨some d, .call ⟨.builtin .append, #[x, y], #[t, t2]⟩, rt, pos, af, g⟩ :: rest) σ tr (m :: sup) := RX_o (t := ⟨kr (.l m :: .l n :: .b n :: (ks ++ opk x)), (.t d, .v (.c (.g m 0 len' len' z))) :: (.l n, .l false) :: (.l m, .l true) :: (.b m, .b (.w true L')) :: []⟩) hr hG (e1.eq ▸ LocalO.appendG hF hN hx ha hb rfl (by rw [List.length_map]; exact hle) hs hT hm hn (by show some (true, _) = _; rw [← e2.eq, hp.eq, List.map_append, List.map_take, List.map_drop]))
theorem eAppSW [hF : WideLike F] {d : Tmp} {n m o len cap k z len' : Nat} {x y : Operand} {t t2 el : TypeId} {vs : List C} {L us L' : List Value} {ks : List Key} {ti : TypeInfo} {zv : Value} {rt : TypeId} {pos : String} {af : Array Edge} {g : Option (Nat × Bool)} {gk : List Key}
    (hr : RX c F nn id ops draw Q σ0 (i + 1) rest (upd σ ((.t d, .v (.c (.g m 0 len' len' z))) :: (.l n, .l false) :: (.l m, .l true) :: (.b m, .b (.w true L')) :: [])) (⟨orR gk (kr (.l m :: .l n :: .b n :: (ks ++ opk x))), (.t d, .v (.c (.g m 0 len' len' z))) :: (.l n, .l false) :: (.l m, .l true) :: (.b m, .b (.w true L')) :: []⟩ :: tr) sup)
    (hG : autoParam (GOk ops σ g gk) aGOK._auto_1) (hx : opv σ x = some (.c (.s n o len cap)) := by rfl) (ha : σ (.l n) = some (.l true) := by rfl) (hb : σ (.b n) = some (.b (.w true L)) := by rfl) (hlc : autoParam (len ≤ cap) aLEN._auto_1) (hcm : autoParam (cap ≤ 140737488355328) aLEN._auto_1) (hle : autoParam (o + cap * z ≤ L.length) aLENV._auto_1) (ht : c.P.underlying t = some (.slice el) := by rfl) (hz : tS c.P el = some z := by rfl) (hs : autoParam (SrcOk c σ y k z vs ks) aSRC._auto_1) (hp : autoParam (PlL vs us) aPLX._auto_1) (hT : autoParam (AppT c.P t t2 el z ti zv (len + k)) aAPPT._auto_1) (hm : autoParam (¬ c.gv m) aGVN._auto_1) (hn : σ (.l m) = none := by rfl) (e1 : autoParam (Is (len + k) len') aOFF._auto_1) (e2 : autoParam (Is ((L.drop o).take (len * z) ++ us) L') aJOINW._auto_1) (hN : dOk c.N (some d) = true := by rfl) :
    RX c F nn id ops draw Q σ0 i (⟨some d, .call ⟨.builtin .append, #[x, y], #[t, t2]⟩, rt, pos, af, g⟩ :: rest) σ tr (m :: sup) := RX_o (t := ⟨kr (.l m :: .l n :: .b n :: (ks ++ opk x)), (.t d, .v (.c (.g m 0 len' len' z))) :: (.l n, .l false) :: (.l m, .l true) :: (.b m, .b (.w true L')) :: []⟩) hr hG (e1.eq ▸ LocalO.appendS hF hN hx ha hb rfl hlc hcm (by rw [List.length_map]; exact hle) hs hT hm hn (by show some (true, _) = _; rw [← e2.eq, hp.eq, List.map_append, List.map_take, List.map_drop]))
theorem eAppZW [hF : WideLike F] {d : Tmp} {n m o k z len' : Nat} {x y : Operand} {t t2 el : TypeId} {vs : List C} {us L' : List Value} {ks : List Key} {ti : TypeInfo} {zv : Value} {rt : TypeId} {pos : String} {af : Array Edge} {g : Option (Nat × Bool)} {gk : List Key}
    (hr : RX c F nn id ops draw Q σ0 (i + 1) rest (upd σ ((.t d, .v (.c (.g m 0 len' len' z))) :: (.l m, .l true) :: (.b m, .b (.w true L')) :: [])) (⟨orR gk (kr (.l m :: .l n :: (ks ++ opk x))), (.t d, .v (.c (.g m 0 len' len' z))) :: (.l m, .l true) :: (.b m, .b (.w true L')) :: []⟩ :: tr) sup)
    (hG : autoParam (GOk ops σ g gk) aGOK._auto_1) (hx : opv σ x = some (.c (.s n o 0 0)) := by rfl) (ha : σ (.l n) = some (.l true) := by rfl) (ht : c.P.underlying t = some (.slice el) := by rfl) (hz : tS c.P el = some z := by rfl) (hs : autoParam (SrcOk c σ y k z vs ks) aSRC._auto_1) (hp : autoParam (PlL vs us) aPLX._auto_1) (hT : autoParam (AppT c.P t t2 el z ti zv (0 + k)) aAPPT._auto_1) (hm : autoParam (¬ c.gv m) aGVN._auto_1) (hn : σ (.l m) = none := by rfl) (e1 : autoParam (Is (0 + k) len') aOFF._auto_1) (e2 : autoParam (Is (us) L') aJOINW._auto_1) (hN : dOk c.N (some d) = true := by rfl) :
    RX c F nn id ops draw Q σ0 i (⟨some d, .call ⟨.builtin .append, #[x, y], #[t, t2]⟩, rt, pos, af, g⟩ :: rest) σ tr (m :: sup) := RX_o (t := ⟨kr (.l m :: .l n :: (ks ++ opk x)), (.t d, .v (.c (.g m 0 len' len' z))) :: (.l m, .l true) :: (.b m, .b (.w true L')) :: []⟩) hr hG ((by rw [← e1.eq, Nat.zero_add]; exact LocalO.appendZ hF hN hx ha hs hT hm hn (by show some (true, _) = _; rw [← e2.eq, hp.eq])))
theorem eAppNW [hF : WideLike F] {d : Tmp} {m k z len' : Nat} {p : Option Addr} {x y : Operand} {t t2 el : TypeId} {vs : List C} {us L' : List Value} {ks : List Key} {ti : TypeInfo} {zv : Value} {rt : TypeId} {pos : String} {af : Array Edge} {g : Option (Nat × Bool)} {gk : List Key}
    (hr : RX c F nn id ops draw Q σ0 (i + 1) rest (upd σ ((.t d, .v (.c (.g m 0 len' len' z))) :: (.l m, .l true) :: (.b m, .b (.w true L')) :: [])) (⟨orR gk (kr (.l m :: (ks ++ opk x))), (.t d, .v (.c (.g m 0 len' len' z))) :: (.l m, .l true) :: (.b m, .b (.w true L')) :: []⟩ :: tr) sup)
    (hG : autoParam (GOk ops σ g gk) aGOK._auto_1) (hx : opv σ x = some (.c (.v (.slice p 0 0))) := by rfl) (ht : c.P.underlying t = some (.slice el) := by rfl) (hz : tS c.P el = some z := by rfl) (hs : autoParam (SrcOk c σ y k z vs ks) aSRC._auto_1) (hp : autoParam (PlL vs us) aPLX._auto_1) (hT : autoParam (AppT c.P t t2 el z ti zv (0 + k)) aAPPT._auto_1) (hm : autoParam (¬ c.gv m) aGVN._auto_1) (hn : σ (.l m) = none := by rfl) (e1 : autoParam (Is (0 + k) len') aOFF._auto_1) (e2 : autoParam (Is (us) L') aJOINW._auto_1) (hN : dOk c.N (some d) = true := by rfl) :
    RX c F nn id ops draw Q σ0 i (⟨some d, .call ⟨.builtin .append, #[x, y], #[t, t2]⟩, rt, pos, af, g⟩ :: rest) σ tr (m :: sup) := RX_o (t := ⟨kr (.l m :: (ks ++ opk x)), (.t d, .v (.c (.g m 0 len' len' z))) :: (.l m, .l true) :: (.b m, .b (.w true L')) :: []⟩) hr hG ((by rw [← e1.eq, Nat.zero_add]; exact LocalO.appendN hF hN hx hs hT hm hn (by show some (true, _) = _; rw [← e2.eq, hp.eq])))

end
end Go.Proofs.Ytbjogekhedglgaa.EW
