/- image: fragments in memory; Lay. -/
import Derived.Test.YtflgamohploalaaHImP
namespace Go.Proofs.Ytflgamohploalaa
set_option linter.unusedSimpArgs false
set_option linter.unusedVariables false
open Go.RowKit EV
open SX (Wr Tv Qu Rm Sh Is conjP eqs_iff eqs_false)
open EW (PlL PlT PlV PlVs LfV Mm Bt Opn GV YT lpOf nums)
set_option maxRecDepth 20000
abbrev Fg.vals (f : Fg) : List Value := [.int .i64 f.x, .int .i64 f.y, .int .u32 f.p.z, .int .i64 f.p.o, .int .i64 f.p.t, .int .u32 f.p.c]
def Fg.zero : Fg := ⟨0, 0, Px.zero⟩
def fgs (l : List Fg) : List Value := l.flatMap Fg.vals
theorem fgs_length : ∀ l : List Fg, (fgs l).length = l.length * 6
  | [] => rfl
  | p :: l => by
    have := fgs_length l
    simp only [fgs, List.flatMap_cons, List.length_append, List.length_cons] at this ⊢
    rw [this]; simp only [Fg.vals, List.length_cons, List.length_nil]; omega
theorem fgs_cut : ∀ (l : List Fg) (j : Nat) (h : j < l.length), ((fgs l).drop (j * 6)).take 6 = (l[j]).vals
  | p :: l, 0, _ => rfl
  | p :: l, j + 1, h => by
    have := fgs_cut l j (by simpa using h)
    rw [show (j + 1) * 6 = j * 6 + 1 + 1 + 1 + 1 + 1 + 1 by omega]
    simpa [fgs, Fg.vals] using this
instance (l : List Fg) : EW.RowV (fgs l) 6 l.length (fun j => (l.getD j Fg.zero).vals) := ⟨fgs_length l, fun j h => by
  rw [fgs_cut l j h]; simp [List.getD_eq_getElem?_getD, List.getElem?_eq_getElem h]⟩
theorem of_y (f : Fg) (h : f.p.ok) (w : World) : Calls Try.prog 40 #[f.val] w fun e w' => e = .returned (.tuple #[f.p.val, .int .i64 0]) ∧ Below w.heap.size w w' := by
  have := of_any f w; rwa [ofV, if_pos h] at this
theorem of_n (f : Fg) (h : ¬ f.p.ok) (w : World) : Calls Try.prog 40 #[f.val] w fun e w' => e = .returned (.tuple #[Px.zero.val, .int .i64 130]) ∧ Below w.heap.size w w' := by
  have := of_any f w; rwa [ofV, if_neg h] at this
theorem of_e (f : Fg) : ∃ (q : Px) (e : Int), (∀ w, Calls Try.prog 40 #[f.val] w fun r w' => r = .returned (.tuple #[q.val, .int .i64 e]) ∧ Below w.heap.size w w') ∧ (∀ w, Calls Try.prog 56 #[f.val] w fun r w' => r = .returned (.tuple #[q.val, .int .i64 e]) ∧ Below w.heap.size w w') ∧ (e = 0 ↔ f.p.ok) := by
  by_cases h : f.p.ok
  · exact ⟨f.p, 0, of_y f h, fun w => by have := rof_any f w; rwa [ofV, if_pos h] at this, by simp [h]⟩
  · exact ⟨Px.zero, 130, of_n f h, fun w => by have := rof_any f w; rwa [ofV, if_neg h] at this, by simp [h]⟩
/-- A fragment that may be laid. -/
abbrev fgOk (w h : Int) (f : Fg) : Prop := inIm w h f.x f.y ∧ f.p.ok
/-- Where it goes. -/
def fat (w : Int) (f : Fg) : Nat := (f.y * w + f.x).toNat
def lay1 (w : Int) (y : List Px) (f : Fg) : List Px := y.set (fat w f) ((y.getD (fat w f) Px.zero).near f.p)
def lays (w : Int) (y : List Px) (l : List Fg) : List Px := l.foldl (lay1 w) y
theorem lays_len (w : Int) : ∀ (l : List Fg) (y : List Px), (lays w y l).length = y.length
  | [], y => rfl
  | f :: l, y => by rw [lays, List.foldl_cons]; exact (lays_len w l _).trans (by rw [lay1, List.length_set])
theorem tkf {l : List Fg} {i : Nat} (h : i < l.length) : l.take (i + 1) = l.take i ++ [l.getD i Fg.zero] := by
  rw [List.take_add_one, List.getD_eq_getElem?_getD, List.getElem?_eq_getElem h]; rfl
theorem lays_next {w : Int} {xs : List Px} {l : List Fg} {i : Nat} (h : i < l.length) : lays w xs (l.take (i + 1)) = lay1 w (lays w xs (l.take i)) (l.getD i Fg.zero) := by
  rw [tkf h, lays, List.foldl_append]; rfl
theorem fat_is {w h : Int} {l : List Px} {f : Fg} (hi : imOk w h l) (hf : inIm w h f.x f.y) : f.y * w + f.x = (fat w f : Int) ∧ fat w f < l.length := by
  have := slot_bound hf
  have hl := hi.2.1
  unfold fat
  omega
noncomputable def WL (o o' : Bool) (l : List Px) (fs : List Fg) : Ws := [(.l 0, .l true), (.b 0, .b (.w o (pvs l))), (.l 1, .l true), (.b 1, .b (.w o' (fgs fs)))]
abbrev LayR (f : FuncId) (o o' : Bool) (l : List Px) (fs : List Fg) (w h w' h' : Int) (r : List Px) (e : Int) : Prop := CT Try.prog f [.a (imC 0 w h l.length), .c (.g 1 0 fs.length fs.length 6)] (upd EW.emp (WL o o' l fs)) 2 3 (.t [.inr (imC 2 w' h' r.length), .inl (.v (.int .i64 e))]) (upd (upd EW.emp (WL o o' l fs)) [(.l 2, .l true), (.b 2, .b (.w true (pvs r)))])
theorem ilay_bad1 (o o' : Bool) (l : List Px) (fs : List Fg) (w h : Int) (hl : l.length ≤ 10000) (hn : ¬ imOk w h l) : LayR 35 o o' l fs w h 0 0 [] 140 := by
  have hC := icheck_n o l w h hn hl
  clear hn
  refine EW.ctEnter [10, 20, 30, 40, 50, 60, 70, 80, 90, 100, 110, 120, 130, 140, 150, 160, 170, 180, 190, 200, 210, 220, 230, 240, 250, 260, 270, 280, 290, 300, 310, 320, 330, 340, 350, 360, 370, 380, 390, 400, 410, 420, 430, 440, 450, 460, 470, 480, 490, 500, 510, 520, 530, 540, 550, 560, 570, 580, 590, 600] Try.func35 rfl Try.ntmps35 rfl (by (((repeat (first | exact EW.NL.emp | (refine EW.NL.upd ?_ rfl) | refine EW.NL.drp ?_ | refine EW.NL.hp ?_ | refine EW.NL.argS ?_ | refine EW.NL.mix ?_)); (first | done | fail)))) ?_; intro w0 tch ini R hR
  all_goals try (refine EW.nm ?_)
  all_goals try ((first | refine EW.eRegL (id := 0) ?_ | refine EW.eReg (id := 0) ?_); refine EW.eBox ?_; refine EW.eAlloc ?_; refine EW.eAssign ?_; refine EW.eEnd ?_; (try refine EW.nm ?_))
  all_goals try ((first | refine EW.eRegL (id := 1) ?_ | refine EW.eReg (id := 1) ?_); refine EW.eLoadA (k := 3) ?_; refine EW.eCallN [0] Try.call34 (hC) ?_; refine EW.eAssign ?_; refine EW.eEnd ?_; (try refine EW.nm ?_))
  all_goals try ((first | refine EW.eRegL (id := 2) ?_ | refine EW.eReg (id := 2) ?_); refine EW.eMove ?_; refine EW.eNeq ?_; refine EW.eEnd ?_; (try refine EW.nm ?_))
  all_goals try (first | refine EW.eYes (x := Operand.tmp 17) ?_ | refine EW.eNo (x := Operand.tmp 17) ?_ | (refine EW.eCond (x := Operand.tmp 17) ?_ ?_ <;> (intro hb hb'; (try dsimp only at hb'); (try (exfalso; first | omega | with_reducible exact absurd rfl hb')))))
  all_goals try (refine EW.nm ?_)
  all_goals try ((first | refine EW.eRegL (id := 3) ?_ | refine EW.eReg (id := 3) ?_); refine EW.eBuild (place := fun i => [(0, 1), (1, 1), (2, 1)][i]?) ?_; refine EW.eMove ?_; (first | refine EW.eStoreW (k := 3) ?_ | refine EW.eStore (k := 3) ?_); refine EW.eAssign ?_; refine EW.eEnd ?_; (try refine EW.nm ?_))
  all_goals try (refine EW.eNilBK 20 2 25 4 (l' := [.v (.int .i64 0), .v (.int .i64 0), .g 25 0 0 0 4]) ?_)
  all_goals try (with_reducible refine EW.parkK ?_)
  all_goals try ((first | refine EW.eRegL (id := 4) ?_ | refine EW.eReg (id := 4) ?_); refine EW.eFieldAddr (k := 1) ?_; refine EW.eLoad1 ?_; fail "no contract of slices.Clone[[]mullion/api.Pixel,mullion/api.Pixel]"; refine EW.eAssign ?_; refine EW.eEnd ?_; (try refine EW.nm ?_))
  all_goals try ((first | refine EW.eRegL (id := 5) ?_ | refine EW.eReg (id := 5) ?_); refine EW.eMove ?_; (first | refine EW.eLenS ?_ | refine EW.eLenG ?_ | refine EW.eLenN ?_); refine EW.eMove ?_; refine EW.eEnd ?_; (try refine EW.nm ?_))
  all_goals try (refine EW.eUnroll 6 ?_)
  all_goals try (refine EW.nm ?_)
  iterate 6 (
    all_goals try ((first | refine EW.eRegL (id := 6) ?_ | refine EW.eReg (id := 6) ?_); refine EW.eLss ?_; refine EW.eEnd ?_; (try refine EW.nm ?_))
    all_goals try (first | refine EW.eYes (x := Operand.tmp 26) ?_ | refine EW.eNo (x := Operand.tmp 26) ?_ | (refine EW.eCond (x := Operand.tmp 26) ?_ ?_ <;> (intro hb hb'; (try dsimp only at hb'); (try (exfalso; first | omega | with_reducible exact absurd rfl hb')))))
    all_goals try (refine EW.nm ?_)
    all_goals try ((first | refine EW.eRegL (id := 7) ?_ | refine EW.eReg (id := 7) ?_); (first | refine EW.eIndexAddrS (z := 6) ?_ | refine EW.eIndexAddrG (z := 6) ?_); refine EW.eLoadA (k := 6) ?_; refine EW.eAlloc ?_; (first | refine EW.eStoreW (k := 6) ?_ | refine EW.eStore (k := 6) ?_); refine EW.eEnd ?_; (try refine EW.nm ?_))
    all_goals try ((first | refine EW.eRegL (id := 8) ?_ | refine EW.eReg (id := 8) ?_); refine EW.eLoadA (k := 3) ?_; refine EW.eFieldAddr (k := 1) ?_; refine EW.eLoad1 ?_; refine EW.eFieldAddr (k := 1) ?_; refine EW.eLoad1 ?_; fail "no contract of mullion/image.Slot"; refine EW.eMove ?_; (first | refine EW.eExtC ?_ | refine EW.eExtA ?_); (first | refine EW.eExtC ?_ | refine EW.eExtA ?_); refine EW.eAssign ?_; refine EW.eAssign ?_; refine EW.eEnd ?_; (try refine EW.nm ?_))
    all_goals try ((first | refine EW.eRegL (id := 9) ?_ | refine EW.eReg (id := 9) ?_); refine EW.eLoadA (k := 6) ?_; fail "no contract of mullion/pixel.Of"; refine EW.eMove ?_; (first | refine EW.eExtC ?_ | refine EW.eExtA ?_); (first | refine EW.eExtC ?_ | refine EW.eExtA ?_); refine EW.eAlloc ?_; (first | refine EW.eStoreW (k := 4) ?_ | refine EW.eStore (k := 4) ?_); refine EW.eAssign ?_; refine EW.eEnd ?_; (try refine EW.nm ?_))
    all_goals try ((first | refine EW.eRegL (id := 10) ?_ | refine EW.eReg (id := 10) ?_); refine EW.eMove ?_; refine EW.eNot ?_; refine EW.eMove ?_)
    all_goals try (refine EW.eGuard (j := 2) (o := ⟨some 46, _, _, _, _, _⟩) ?_ ?_ <;> (intro hb hb'; (try dsimp only at hb'); (try (exfalso; first | omega | with_reducible exact absurd rfl hb'))))
    all_goals try ((first | refine EW.eSkipF (j := 2) ?_ | refine EW.eSkipU (j := 2) ?_ | refine EW.eMove ?_); (first | refine EW.eSkipF (j := 2) ?_ | refine EW.eSkipU (j := 2) ?_ | refine EW.eNeq ?_); (first | refine EW.ePickT ?_ | refine EW.ePickF ?_); refine EW.eEnd ?_; (try refine EW.nm ?_))
    all_goals try (first | refine EW.eYes (x := Operand.tmp 48) ?_ | refine EW.eNo (x := Operand.tmp 48) ?_ | (refine EW.eCond (x := Operand.tmp 48) ?_ ?_ <;> (intro hb hb'; (try dsimp only at hb'); (try (exfalso; first | omega | with_reducible exact absurd rfl hb')))))
    all_goals try (refine EW.nm ?_)
    all_goals try ((first | refine EW.eRegL (id := 11) ?_ | refine EW.eReg (id := 11) ?_); refine EW.eBuild (place := fun i => [(0, 1), (1, 1), (2, 1)][i]?) ?_; (first | refine EW.eStoreW (k := 3) ?_ | refine EW.eStore (k := 3) ?_); refine EW.eAssign ?_; refine EW.eEnd ?_; (try refine EW.nm ?_))
    all_goals try (with_reducible refine EW.parkK ?_)
    all_goals try ((first | refine EW.eRegL (id := 12) ?_ | refine EW.eReg (id := 12) ?_); refine EW.eMove ?_; refine EW.eMove ?_; refine EW.eMove ?_; refine EW.eMove ?_; (first | refine EW.eIndexAddrS (z := 4) ?_ | refine EW.eIndexAddrG (z := 4) ?_); refine EW.eLoadA (k := 4) ?_; refine EW.eLoadA (k := 4) ?_; fail "no contract of mullion/pixel.Near"; (first | refine EW.eIndexAddrS (z := 4) ?_ | refine EW.eIndexAddrG (z := 4) ?_); (first | refine EW.eStoreW (k := 4) ?_ | refine EW.eStore (k := 4) ?_); refine EW.eDraw ?_; (try refine EW.nm ?_))
    all_goals try ((first | refine EW.eRegL (id := 13) ?_ | refine EW.eReg (id := 13) ?_); refine EW.eAdd ?_; refine EW.eMove ?_; refine EW.eEnd ?_; (try refine EW.nm ?_)))
  all_goals try ((first | refine EW.eRegL (id := 14) ?_ | refine EW.eReg (id := 14) ?_); refine EW.eLoadA (k := 3) ?_; refine EW.eMove ?_; fail "no contract of mullion/image.with"; (first | refine EW.eStoreW (k := 3) ?_ | refine EW.eStore (k := 3) ?_); refine EW.eAssign ?_; refine EW.eEnd ?_; (try refine EW.nm ?_))
  all_goals try (with_reducible refine EW.parkK ?_)
  all_goals try (refine EW.Park.mk ?_)
  all_goals (refine EW.eLeaveN [25] hR (by first | exact .inl rfl | exact .inr rfl) (by rfl) (by rfl) ?_ ?_ rfl rfl (by (((repeat (first | exact EW.NL.emp | (refine EW.NL.upd ?_ rfl) | refine EW.NL.drp ?_ | refine EW.NL.hp ?_ | refine EW.NL.argS ?_ | refine EW.NL.mix ?_)); (first | done | fail)))) rfl rfl; rotate_left 1; (· ((repeat (first | exact EW.atE.nil | refine EW.atE.lt rfl ?_ | refine EW.atE.lf ?_ | refine EW.atE.b rfl EW.SameB.refl ?_ | (refine EW.atE.b rfl ?_ ?_; rotate_left 1))))))
  all_goals rfl
set_option maxHeartbeats 2000000 in
theorem ilay_y (o o' : Bool) (l : List Px) (fs : List Fg) (w h : Int) (hi : imOk w h l) (hf : fs.length ≤ 1000) (hs : ∀ i, i < fs.length → fgOk w h (fs.getD i Fg.zero)) : LayR 35 o o' l fs w h w h (lays w l fs) 0 := by
  have hC := icheck_y o l w h hi
  have h4 := im_len hi
  have hK := pclone_any o l (by omega)
  have hll := lays_len w fs l
  have hT := with_ctk o true l (lays w l fs) w h l.length hll
  have hat := fun i (h : i < fs.length) => fat_is hi (hs i h).1
  unfold LayR
  rw [hll]
  clear hi
  refine EW.ctEnter [10, 20, 30, 40, 50, 60, 70, 80, 90, 100, 110, 120, 130, 140, 150, 160, 170, 180, 190, 200, 210, 220, 230, 240, 250, 260, 270, 280, 290, 300, 310, 320, 330, 340, 350, 360, 370, 380, 390, 400, 410, 420, 430, 440, 450, 460, 470, 480, 490, 500, 510, 520, 530, 540, 550, 560, 570, 580, 590, 600] Try.func35 rfl Try.ntmps35 rfl (by (((repeat (first | exact EW.NL.emp | (refine EW.NL.upd ?_ rfl) | refine EW.NL.drp ?_ | refine EW.NL.hp ?_ | refine EW.NL.argS ?_ | refine EW.NL.mix ?_)); (first | done | fail)))) ?_; intro w0 tch ini R hR
  all_goals try (refine EW.nm ?_)
  all_goals try ((first | refine EW.eRegL (id := 0) ?_ | refine EW.eReg (id := 0) ?_); refine EW.eBox ?_; refine EW.eAlloc ?_; refine EW.eAssign ?_; refine EW.eEnd ?_; (try refine EW.nm ?_))
  all_goals try ((first | refine EW.eRegL (id := 1) ?_ | refine EW.eReg (id := 1) ?_); refine EW.eLoadA (k := 3) ?_; refine EW.eCallN [0] Try.call34 (hC) ?_; refine EW.eAssign ?_; refine EW.eEnd ?_; (try refine EW.nm ?_))
  all_goals try ((first | refine EW.eRegL (id := 2) ?_ | refine EW.eReg (id := 2) ?_); refine EW.eMove ?_; refine EW.eNeq ?_; refine EW.eEnd ?_; (try refine EW.nm ?_))
  all_goals try (first | refine EW.eYes (x := Operand.tmp 17) ?_ | refine EW.eNo (x := Operand.tmp 17) ?_ | (refine EW.eCond (x := Operand.tmp 17) ?_ ?_ <;> (intro hb hb'; (try dsimp only at hb'); (try (exfalso; first | omega | with_reducible exact absurd rfl hb')))))
  all_goals try (refine EW.nm ?_)
  all_goals try ((first | refine EW.eRegL (id := 3) ?_ | refine EW.eReg (id := 3) ?_); refine EW.eBuild (place := fun i => [(0, 1), (1, 1), (2, 1)][i]?) ?_; refine EW.eMove ?_; (first | refine EW.eStoreW (k := 3) ?_ | refine EW.eStore (k := 3) ?_); refine EW.eAssign ?_; refine EW.eEnd ?_; (try refine EW.nm ?_))
  all_goals try (with_reducible refine EW.parkK ?_)
  all_goals try ((first | refine EW.eRegL (id := 4) ?_ | refine EW.eReg (id := 4) ?_); refine EW.eFieldAddr (k := 1) ?_; refine EW.eLoad1 ?_; refine EW.eCallN [0] Try.call47 (hK) ?_; refine EW.eAssign ?_; refine EW.eEnd ?_; (try refine EW.nm ?_))
  all_goals try ((first | refine EW.eRegL (id := 5) ?_ | refine EW.eReg (id := 5) ?_); refine EW.eMove ?_; (first | refine EW.eLenS ?_ | refine EW.eLenG ?_ | refine EW.eLenN ?_); refine EW.eMove ?_; refine EW.eEnd ?_; (try refine EW.nm ?_))
  all_goals first | (fail_if_success (refine EW.eUnroll 1 ?_)) | (refine EW.eLoopD [1000040, 5, 9, 10, 11, 12, 13, 25, 26, 27, 28, 29, 30, 31, 32, 33, 34, 35, 36, 37, 38, 39, 40, 41, 42, 43, 44, 45, 46, 47, 48, 49, 50, 51, 52, 53, 54, 55, 56, 57, 58, 59] 41 (fun j : {x : Nat × List Px // x.1 ≤ fs.length ∧ x.2 = lays w l (fs.take x.1)} => [(.t 25, .v (.c (.v (.int .i64 j.1.1)))), (.b 40, .b (.w true (pvs j.1.2)))]) (fun j => fs.length - j.1.1) (⟨(0, l), by omega, rfl⟩) (by ((repeat (first | exact EW.subW.nil | refine EW.subW.cons rfl ?_ | refine EW.subW.conv rfl ?_)); (first | done | fail))) ?_; rintro hcl6 ⟨⟨i, y⟩, hi, hy⟩; (try dsimp only))
  all_goals try (refine EW.nm ?_)
  all_goals try ((first | refine EW.eRegL (id := 6) ?_ | refine EW.eReg (id := 6) ?_); refine EW.eLss ?_; refine EW.eEnd ?_; (try refine EW.nm ?_))
  all_goals try (first | refine EW.eYes (x := Operand.tmp 26) ?_ | refine EW.eNo (x := Operand.tmp 26) ?_ | (refine EW.eCond (x := Operand.tmp 26) ?_ ?_ <;> (intro hb hb'; (try dsimp only at hb'); (try (exfalso; first | omega | with_reducible exact absurd rfl hb')))))
  all_goals try (refine EW.nm ?_)
  all_goals (try ((try dsimp only at hi hy); have hil : i < fs.length := (by omega); obtain ⟨ha1, ha2⟩ := hat i hil; obtain ⟨hs1, hs2⟩ := hs i hil; have hyl : y.length = l.length := (by rw [hy]; exact lays_len _ _ _); have hSl := islot_y o l w h (fs.getD i Fg.zero).x (fs.getD i Fg.zero).y hs1; rw [ha1] at hSl; have hnx := lays_next (w := w) (xs := l) hil; rw [← hy] at hnx; unfold lay1 at hnx; have hNr := pnear (y.getD (fat w (fs.getD i Fg.zero)) Px.zero) (fs.getD i Fg.zero).p; generalize fat w (fs.getD i Fg.zero) = at9 at *; obtain ⟨q, hq⟩ : ∃ q, (y.getD at9 Px.zero).near (fs.getD i Fg.zero).p = q := ⟨_, rfl⟩; rw [hq] at hNr hnx))
  all_goals try ((first | refine EW.eRegL (id := 7) ?_ | refine EW.eReg (id := 7) ?_); (first | refine EW.eIndexAddrS (z := 6) ?_ | refine EW.eIndexAddrG (z := 6) ?_); refine EW.eLoadA (k := 6) ?_; refine EW.eAlloc ?_; (first | refine EW.eStoreW (k := 6) ?_ | refine EW.eStore (k := 6) ?_); refine EW.eEnd ?_; (try refine EW.nm ?_))
  all_goals try ((first | refine EW.eRegL (id := 8) ?_ | refine EW.eReg (id := 8) ?_); refine EW.eLoadA (k := 3) ?_; refine EW.eFieldAddr (k := 1) ?_; refine EW.eLoad1 ?_; refine EW.eFieldAddr (k := 1) ?_; refine EW.eLoad1 ?_; refine EW.eCallN [0] Try.call31 (hSl) ?_; refine EW.eMove ?_; (first | refine EW.eExtC ?_ | refine EW.eExtA ?_); (first | refine EW.eExtC ?_ | refine EW.eExtA ?_); refine EW.eAssign ?_; refine EW.eAssign ?_; refine EW.eEnd ?_; (try refine EW.nm ?_))
  all_goals try ((first | refine EW.eRegL (id := 9) ?_ | refine EW.eReg (id := 9) ?_); refine EW.eLoadA (k := 6) ?_; refine EW.eCall Try.call40 (fun w => of_y (fs.getD i Fg.zero) hs2 w) ?_; refine EW.eMove ?_; (first | refine EW.eExtC ?_ | refine EW.eExtA ?_); (first | refine EW.eExtC ?_ | refine EW.eExtA ?_); refine EW.eAlloc ?_; (first | refine EW.eStoreW (k := 4) ?_ | refine EW.eStore (k := 4) ?_); refine EW.eAssign ?_; refine EW.eEnd ?_; (try refine EW.nm ?_))
  all_goals try ((first | refine EW.eRegL (id := 10) ?_ | refine EW.eReg (id := 10) ?_); refine EW.eMove ?_; refine EW.eNot ?_; refine EW.eMove ?_)
  all_goals try (refine EW.eGuard (j := 2) (o := ⟨some 46, _, _, _, _, _⟩) ?_ ?_ <;> (intro hb hb'; (try dsimp only at hb'); (try (exfalso; first | omega | with_reducible exact absurd rfl hb'))))
  all_goals try ((first | refine EW.eSkipF (j := 2) ?_ | refine EW.eSkipU (j := 2) ?_ | refine EW.eMove ?_); (first | refine EW.eSkipF (j := 2) ?_ | refine EW.eSkipU (j := 2) ?_ | refine EW.eNeq ?_); (first | refine EW.ePickT ?_ | refine EW.ePickF ?_); refine EW.eEnd ?_; (try refine EW.nm ?_))
  all_goals try (first | refine EW.eYes (x := Operand.tmp 48) ?_ | refine EW.eNo (x := Operand.tmp 48) ?_ | (refine EW.eCond (x := Operand.tmp 48) ?_ ?_ <;> (intro hb hb'; (try dsimp only at hb'); (try (exfalso; first | omega | with_reducible exact absurd rfl hb')))))
  all_goals try (refine EW.nm ?_)
  all_goals try ((first | refine EW.eRegL (id := 11) ?_ | refine EW.eReg (id := 11) ?_); refine EW.eBuild (place := fun i => [(0, 1), (1, 1), (2, 1)][i]?) ?_; (first | refine EW.eStoreW (k := 3) ?_ | refine EW.eStore (k := 3) ?_); refine EW.eAssign ?_; refine EW.eEnd ?_; (try refine EW.nm ?_))
  all_goals try (with_reducible refine EW.parkK ?_)
  all_goals try ((first | refine EW.eRegL (id := 12) ?_ | refine EW.eReg (id := 12) ?_); refine EW.eMove ?_; refine EW.eMove ?_; refine EW.eMove ?_; refine EW.eMove ?_; (first | refine EW.eIndexAddrS (z := 4) ?_ | refine EW.eIndexAddrG (z := 4) ?_); refine EW.eLoadA (k := 4) ?_; refine EW.eLoadA (k := 4) ?_; refine EW.eCall Try.call41 (fun w => hNr w) ?_; (first | refine EW.eIndexAddrS (z := 4) ?_ | refine EW.eIndexAddrG (z := 4) ?_); (first | refine EW.eStoreW (k := 4) ?_ | refine EW.eStore (k := 4) ?_); refine EW.eDraw ?_; (try refine EW.nm ?_))
  all_goals try ((first | refine EW.eRegL (id := 13) ?_ | refine EW.eReg (id := 13) ?_); refine EW.eAdd ?_; refine EW.eMove ?_; refine EW.eEnd ?_; (try refine EW.nm ?_))
  all_goals first | (fail_if_success (with_reducible refine EW.isLater ?_)) | (refine EW.eLaterD (⟨(i + 1, y.set at9 q), by dsimp only; omega, hnx.symm⟩) (by dsimp only; omega) (by ((repeat (first | exact EW.subW.nil | refine EW.subW.cons rfl ?_ | refine EW.subW.conv rfl ?_)); (first | done | fail))) hcl6)
  all_goals try (refine EW.nm ?_)
  all_goals (try ((try dsimp only at hi hy); have hie : i = fs.length := (by omega); rw [hie, List.take_length] at hy; subst hy))
  all_goals try ((first | refine EW.eRegL (id := 14) ?_ | refine EW.eReg (id := 14) ?_); refine EW.eLoadA (k := 3) ?_; refine EW.eMove ?_; refine EW.eCallN [0, 40] Try.call49 (hT) ?_; (first | refine EW.eStoreW (k := 3) ?_ | refine EW.eStore (k := 3) ?_); refine EW.eAssign ?_; refine EW.eEnd ?_; (try refine EW.nm ?_))
  all_goals try (with_reducible refine EW.parkK ?_)
  all_goals try (refine EW.Park.mk ?_)
  all_goals (refine EW.eLeaveN [40] hR (by first | exact .inl rfl | exact .inr rfl) (by rfl) (by rfl) ?_ ?_ rfl rfl (by (((repeat (first | exact EW.NL.emp | (refine EW.NL.upd ?_ rfl) | refine EW.NL.drp ?_ | refine EW.NL.hp ?_ | refine EW.NL.argS ?_ | refine EW.NL.mix ?_)); (first | done | fail)))) rfl rfl; rotate_left 1; (· ((repeat (first | exact EW.atE.nil | refine EW.atE.lt rfl ?_ | refine EW.atE.lf ?_ | refine EW.atE.b rfl EW.SameB.refl ?_ | (refine EW.atE.b rfl ?_ ?_; rotate_left 1))))))
  all_goals rfl
end Go.Proofs.Ytflgamohploalaa
