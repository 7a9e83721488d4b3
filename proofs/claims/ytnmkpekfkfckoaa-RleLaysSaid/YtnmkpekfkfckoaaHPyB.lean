/- pixel: Take, case by case. -/
import Derived.Test.YtnmkpekfkfckoaaHPyA
namespace Go.Proofs.Ytnmkpekfkfckoaa
set_option linter.unusedSimpArgs false
set_option linter.unusedVariables false
open Go.RowKit EV
open SX (Wr Tv Qu Rm Sh Is conjP eqs_iff eqs_false)
open EW (PlL PlT PlV PlVs LfV Mm Bt Opn GV YT lpOf nums)
set_option maxRecDepth 20000
theorem pleftF (bs : List Int) (p n : Nat) : CT Try.prog 89 [.c (.p 0 0)] (upd EW.emp (WR bs p n false)) 2 2 (.c (.v (.int .i64 (n : Int)))) (upd (upd EW.emp (WR bs p n false)) []) := rleft bs p n false
theorem pleftT (bs : List Int) (p n : Nat) : CT Try.prog 89 [.c (.p 0 0)] (upd EW.emp (WR bs p n true)) 2 2 (.c (.v (.int .i64 0))) (upd (upd EW.emp (WR bs p n true)) []) := rleft bs p n true
theorem pendT (bs : List Int) (p n : Nat) : CT Try.prog 45 [.c (.p 0 0)] (upd EW.emp (WR bs p n true)) 2 2 (.c (.v (.int .i64 50))) (upd (upd EW.emp (WR bs p n true)) []) := by
  have := rend bs p n true
  rwa [if_pos (.inl rfl)] at this
theorem pend0 (bs : List Int) (p n : Nat) : CT Try.prog 45 [.c (.p 0 0)] (upd EW.emp (WR bs p 0 false)) 2 2 (.c (.v (.int .i64 0))) (upd (upd EW.emp (WR bs p 0 false)) []) := by
  have := rend bs p 0 false
  rwa [if_neg (by simp)] at this
theorem ptake_e (bs : List Int) (p n k0 : Nat) (hy : By bs) (hn : p + n = bs.length) (hl : bs.length ≤ 1000000) (h0 : num (bs.drop p) = some (16777216, k0)) (e1 : k0 ≤ n) : CT Try.prog 92 [.c (.p 0 0)] (upd EW.emp (WR bs p n false)) 2 2 (.a (pcl 16777216 0 0 0)) (upd (upd EW.emp (WR bs p n false)) [(.b 0, .b (.m true (rcs (p + k0) (n - k0) false)))]) := by
  have s0 := rsmall_ok bs p n 16777216 16777216 k0 hy hn hl (by omega) h0 (by omega)
  have hC := fun u => pcheck_is ⟨16777216, 0, 0, 0⟩ 0 u (if_pos (by unfold Px.may; dsimp only; omega))
  have sL := pleftF bs (p + k0) (n - k0)
  have sE := pend0 bs (p + k0) (n - k0)
  have sn : (n - k0) ≤ bs.length := (by omega)
  generalize hp1 : p + k0 = p1 at *
  generalize hn1 : n - k0 = n1 at *
  rcases Nat.eq_zero_or_pos n1 with hq | hq
  · subst hq
    refine EW.ctEnter EW.sup1 Try.func92 rfl Try.ntmps92 rfl EW.nlP ?_; intro w0 tch ini R hR
    all_goals try (refine EW.nm ?_)
    all_goals try (refine EW.eReg (id := 0) ?_; refine EW.eAlloc ?_; refine EW.eEnd ?_; (try refine EW.nm ?_))
    all_goals try (refine EW.eReg (id := 1) ?_; refine EW.eMove ?_; refine EW.eCallN [0, 1] Try.call70 (s0) ?_; refine EW.eConv ?_; refine EW.eBuild (place := fun i => [(0, 1), (1, 1), (2, 1), (3, 1)][i]?) ?_; refine EW.eAlloc ?_; (first | refine EW.eStoreW (k := 4) ?_ | refine EW.eStore (k := 4) ?_); refine EW.eEnd ?_; (try refine EW.nm ?_))
    all_goals try (refine EW.eReg (id := 2) ?_; refine EW.eAssign ?_; refine EW.eEnd ?_; (try refine EW.nm ?_))
    all_goals try (refine EW.eReg (id := 3) ?_; refine EW.eFieldAddr (k := 1) ?_; refine EW.eLoad1 ?_; refine EW.eNeq ?_; refine EW.eEnd ?_; (try refine EW.nm ?_))
    all_goals try (first | refine EW.eYes (x := .tmp 11) ?_ | refine EW.eNo (x := .tmp 11) ?_ | (refine EW.eCond (x := .tmp 11) ?_ ?_ <;> (intro hb hb'; (try dsimp only at hb'); (try (exfalso; first | omega | with_reducible exact absurd rfl hb')))))
    all_goals try (refine EW.nm ?_)
    all_goals try (refine EW.eReg (id := 4) ?_; refine EW.eMove ?_; refine EW.eCallN [0, 1] Try.call70 (s0) ?_; refine EW.eMove ?_; refine EW.eCallN [0, 1] Try.call70 (s0) ?_; refine EW.eMove ?_; fail "no contract of (*mullion/pack.Reader).Uint"; refine EW.eFieldAddr (k := 1) ?_; (first | refine EW.eStoreW (k := 1) ?_ | refine EW.eStore (k := 1) ?_); refine EW.eFieldAddr (k := 1) ?_; (first | refine EW.eStoreW (k := 1) ?_ | refine EW.eStore (k := 1) ?_); refine EW.eAssign ?_; refine EW.eEnd ?_; (try refine EW.nm ?_))
    all_goals try (refine EW.eReg (id := 5) ?_; refine EW.eMove ?_; refine EW.eGtr ?_; refine EW.eMove ?_)
    all_goals try (refine EW.eGuard (j := 2) (o := ⟨some 23, _, _, _, _, _⟩) ?_ ?_ <;> (intro hb hb'; (try dsimp only at hb'); (try (exfalso; first | omega | with_reducible exact absurd rfl hb'))))
    all_goals try ((first | refine EW.eSkipF (j := 2) ?_ | refine EW.eSkipU (j := 2) ?_ | refine EW.eLoadA (k := 4) ?_); (first | refine EW.eSkipF (j := 2) ?_ | refine EW.eSkipU (j := 2) ?_ | refine EW.eCall Try.call62 (fun w => hC w) ?_); (first | refine EW.eSkipF (j := 2) ?_ | refine EW.eSkipU (j := 2) ?_ | refine EW.eNeq ?_); (first | refine EW.ePickT ?_ | refine EW.ePickF ?_); refine EW.eEnd ?_; (try refine EW.nm ?_))
    all_goals try (first | refine EW.eYes (x := .tmp 26) ?_ | refine EW.eNo (x := .tmp 26) ?_ | (refine EW.eCond (x := .tmp 26) ?_ ?_ <;> (intro hb hb'; (try dsimp only at hb'); (try (exfalso; first | omega | with_reducible exact absurd rfl hb')))))
    all_goals try (refine EW.nm ?_)
    all_goals try (refine EW.eReg (id := 6) ?_; refine EW.eMove ?_; fail "no contract of (*mullion/pack.Reader).Spoil"; refine EW.eEnd ?_; (try refine EW.nm ?_))
    all_goals try (refine EW.eReg (id := 7) ?_; refine EW.eMove ?_; refine EW.eConv ?_; refine EW.eFieldAddr (k := 1) ?_; (first | refine EW.eStoreW (k := 1) ?_ | refine EW.eStore (k := 1) ?_); refine EW.eEnd ?_; (try refine EW.nm ?_))
    all_goals try (refine EW.eReg (id := 8) ?_; refine EW.eMove ?_; refine EW.eCallN [0, 1] Try.call89 (sL) ?_; refine EW.eEql ?_; refine EW.eMove ?_)
    all_goals try (refine EW.eGuard (j := 3) (o := ⟨some 36, _, _, _, _, _⟩) ?_ ?_ <;> (intro hb hb'; (try dsimp only at hb'); (try (exfalso; first | omega | with_reducible exact absurd rfl hb'))))
    all_goals try ((first | refine EW.eSkipT (j := 3) ?_ | refine EW.eSkipU (j := 3) ?_ | refine EW.eMove ?_); (first | refine EW.eSkipT (j := 3) ?_ | refine EW.eSkipU (j := 3) ?_ | refine EW.eCallN [0, 1] Try.call45 (sE) ?_); (first | refine EW.eSkipT (j := 3) ?_ | refine EW.eSkipU (j := 3) ?_ | refine EW.eNeq ?_); (first | refine EW.ePickT ?_ | refine EW.ePickF ?_); refine EW.eEnd ?_; (try refine EW.nm ?_))
    all_goals try (first | refine EW.eYes (x := .tmp 39) ?_ | refine EW.eNo (x := .tmp 39) ?_ | (refine EW.eCond (x := .tmp 39) ?_ ?_ <;> (intro hb hb'; (try dsimp only at hb'); (try (exfalso; first | omega | with_reducible exact absurd rfl hb')))))
    all_goals try (refine EW.nm ?_)
    all_goals try (refine EW.eReg (id := 9) ?_; refine EW.eBuild (place := fun i => [(0, 1), (1, 1), (2, 1), (3, 1)][i]?) ?_; (first | refine EW.eStoreW (k := 4) ?_ | refine EW.eStore (k := 4) ?_); refine EW.eEnd ?_; (try refine EW.nm ?_))
    all_goals try (with_reducible refine EW.parkK ?_)
    all_goals try (refine EW.eReg (id := 10) ?_; refine EW.eLoadA (k := 4) ?_; (first | refine EW.eStoreW (k := 4) ?_ | refine EW.eStore (k := 4) ?_); refine EW.eEnd ?_; (try refine EW.nm ?_))
    all_goals try (with_reducible refine EW.parkK ?_)
    all_goals try (refine EW.Park.mk ?_)
    all_goals (refine EW.eLeaveN [] hR EW.orP (by rfl) (by rfl) ?_ ?_ rfl rfl EW.nlP rfl rfl; rotate_left 1; (· ((repeat (first | exact EW.atE.nil | refine EW.atE.lt rfl ?_ | refine EW.atE.lf ?_ | refine EW.atE.b rfl EW.SameB.refl ?_ | (refine EW.atE.b rfl ?_ ?_; rotate_left 1))))))
    all_goals rfl
  · clear sE
    refine EW.ctEnter EW.sup1 Try.func92 rfl Try.ntmps92 rfl EW.nlP ?_; intro w0 tch ini R hR
    all_goals try (refine EW.nm ?_)
    all_goals try (refine EW.eReg (id := 0) ?_; refine EW.eAlloc ?_; refine EW.eEnd ?_; (try refine EW.nm ?_))
    all_goals try (refine EW.eReg (id := 1) ?_; refine EW.eMove ?_; refine EW.eCallN [0, 1] Try.call70 (s0) ?_; refine EW.eConv ?_; refine EW.eBuild (place := fun i => [(0, 1), (1, 1), (2, 1), (3, 1)][i]?) ?_; refine EW.eAlloc ?_; (first | refine EW.eStoreW (k := 4) ?_ | refine EW.eStore (k := 4) ?_); refine EW.eEnd ?_; (try refine EW.nm ?_))
    all_goals try (refine EW.eReg (id := 2) ?_; refine EW.eAssign ?_; refine EW.eEnd ?_; (try refine EW.nm ?_))
    all_goals try (refine EW.eReg (id := 3) ?_; refine EW.eFieldAddr (k := 1) ?_; refine EW.eLoad1 ?_; refine EW.eNeq ?_; refine EW.eEnd ?_; (try refine EW.nm ?_))
    all_goals try (first | refine EW.eYes (x := .tmp 11) ?_ | refine EW.eNo (x := .tmp 11) ?_ | (refine EW.eCond (x := .tmp 11) ?_ ?_ <;> (intro hb hb'; (try dsimp only at hb'); (try (exfalso; first | omega | with_reducible exact absurd rfl hb')))))
    all_goals try (refine EW.nm ?_)
    all_goals try (refine EW.eReg (id := 4) ?_; refine EW.eMove ?_; refine EW.eCallN [0, 1] Try.call70 (s0) ?_; refine EW.eMove ?_; refine EW.eCallN [0, 1] Try.call70 (s0) ?_; refine EW.eMove ?_; fail "no contract of (*mullion/pack.Reader).Uint"; refine EW.eFieldAddr (k := 1) ?_; (first | refine EW.eStoreW (k := 1) ?_ | refine EW.eStore (k := 1) ?_); refine EW.eFieldAddr (k := 1) ?_; (first | refine EW.eStoreW (k := 1) ?_ | refine EW.eStore (k := 1) ?_); refine EW.eAssign ?_; refine EW.eEnd ?_; (try refine EW.nm ?_))
    all_goals try (refine EW.eReg (id := 5) ?_; refine EW.eMove ?_; refine EW.eGtr ?_; refine EW.eMove ?_)
    all_goals try (refine EW.eGuard (j := 2) (o := ⟨some 23, _, _, _, _, _⟩) ?_ ?_ <;> (intro hb hb'; (try dsimp only at hb'); (try (exfalso; first | omega | with_reducible exact absurd rfl hb'))))
    all_goals try ((first | refine EW.eSkipF (j := 2) ?_ | refine EW.eSkipU (j := 2) ?_ | refine EW.eLoadA (k := 4) ?_); (first | refine EW.eSkipF (j := 2) ?_ | refine EW.eSkipU (j := 2) ?_ | refine EW.eCall Try.call62 (fun w => hC w) ?_); (first | refine EW.eSkipF (j := 2) ?_ | refine EW.eSkipU (j := 2) ?_ | refine EW.eNeq ?_); (first | refine EW.ePickT ?_ | refine EW.ePickF ?_); refine EW.eEnd ?_; (try refine EW.nm ?_))
    all_goals try (first | refine EW.eYes (x := .tmp 26) ?_ | refine EW.eNo (x := .tmp 26) ?_ | (refine EW.eCond (x := .tmp 26) ?_ ?_ <;> (intro hb hb'; (try dsimp only at hb'); (try (exfalso; first | omega | with_reducible exact absurd rfl hb')))))
    all_goals try (refine EW.nm ?_)
    all_goals try (refine EW.eReg (id := 6) ?_; refine EW.eMove ?_; fail "no contract of (*mullion/pack.Reader).Spoil"; refine EW.eEnd ?_; (try refine EW.nm ?_))
    all_goals try (refine EW.eReg (id := 7) ?_; refine EW.eMove ?_; refine EW.eConv ?_; refine EW.eFieldAddr (k := 1) ?_; (first | refine EW.eStoreW (k := 1) ?_ | refine EW.eStore (k := 1) ?_); refine EW.eEnd ?_; (try refine EW.nm ?_))
    all_goals try (refine EW.eReg (id := 8) ?_; refine EW.eMove ?_; refine EW.eCallN [0, 1] Try.call89 (sL) ?_; refine EW.eEql ?_; refine EW.eMove ?_)
    all_goals try (refine EW.eGuard (j := 3) (o := ⟨some 36, _, _, _, _, _⟩) ?_ ?_ <;> (intro hb hb'; (try dsimp only at hb'); (try (exfalso; first | omega | with_reducible exact absurd rfl hb'))))
    all_goals try ((first | refine EW.eSkipT (j := 3) ?_ | refine EW.eSkipU (j := 3) ?_ | refine EW.eMove ?_); (first | refine EW.eSkipT (j := 3) ?_ | refine EW.eSkipU (j := 3) ?_ | fail "no contract of (*mullion/pack.Reader).End"); (first | refine EW.eSkipT (j := 3) ?_ | refine EW.eSkipU (j := 3) ?_ | refine EW.eNeq ?_); (first | refine EW.ePickT ?_ | refine EW.ePickF ?_); refine EW.eEnd ?_; (try refine EW.nm ?_))
    all_goals try (first | refine EW.eYes (x := .tmp 39) ?_ | refine EW.eNo (x := .tmp 39) ?_ | (refine EW.eCond (x := .tmp 39) ?_ ?_ <;> (intro hb hb'; (try dsimp only at hb'); (try (exfalso; first | omega | with_reducible exact absurd rfl hb')))))
    all_goals try (refine EW.nm ?_)
    all_goals try (refine EW.eReg (id := 9) ?_; refine EW.eBuild (place := fun i => [(0, 1), (1, 1), (2, 1), (3, 1)][i]?) ?_; (first | refine EW.eStoreW (k := 4) ?_ | refine EW.eStore (k := 4) ?_); refine EW.eEnd ?_; (try refine EW.nm ?_))
    all_goals try (with_reducible refine EW.parkK ?_)
    all_goals try (refine EW.eReg (id := 10) ?_; refine EW.eLoadA (k := 4) ?_; (first | refine EW.eStoreW (k := 4) ?_ | refine EW.eStore (k := 4) ?_); refine EW.eEnd ?_; (try refine EW.nm ?_))
    all_goals try (with_reducible refine EW.parkK ?_)
    all_goals try (refine EW.Park.mk ?_)
    all_goals (refine EW.eLeaveN [] hR EW.orP (by rfl) (by rfl) ?_ ?_ rfl rfl EW.nlP rfl rfl; rotate_left 1; (· ((repeat (first | exact EW.atE.nil | refine EW.atE.lt rfl ?_ | refine EW.atE.lf ?_ | refine EW.atE.b rfl EW.SameB.refl ?_ | (refine EW.atE.b rfl ?_ ?_; rotate_left 1))))))
    all_goals rfl
theorem ptake_n (bs : List Int) (p n z k0 o k1 t k2 c k3 : Nat) (hy : By bs) (hn : p + n = bs.length) (hl : bs.length ≤ 1000000) (h0 : num (bs.drop p) = some (z, k0)) (e1 : k0 ≤ n) (h1 : num (bs.drop (p + k0)) = some (o, k1)) (e2 : k0 + k1 ≤ n) (h2 : num (bs.drop (p + k0 + k1)) = some (t, k2)) (e3 : k0 + k1 + k2 ≤ n) (h3 : num (bs.drop (p + k0 + k1 + k2)) = some (c, k3)) (e4 : k0 + k1 + k2 + k3 ≤ n) (hz : z < 16777216) (ho : o ≤ 65535) (ht : t ≤ 63) (o1 : 1 ≤ o) (hc : c ≤ 4294967295) : CT Try.prog 92 [.c (.p 0 0)] (upd EW.emp (WR bs p n false)) 2 2 (.a (pcl z o t c)) (upd (upd EW.emp (WR bs p n false)) [(.b 0, .b (.m true (rcs (p + k0 + k1 + k2 + k3) (n - k0 - k1 - k2 - k3) false)))]) := by
  have s0 := rsmall_ok bs p n 16777216 z k0 hy (by omega) hl (by omega) h0 (by omega)
  have s1 := rsmall_ok bs (p + k0) (n - k0) 65535 o k1 hy (by omega) hl (by omega) h1 (by omega)
  have s2 := rsmall_ok bs (p + k0 + k1) (n - k0 - k1) 63 t k2 hy (by omega) hl (by omega) h2 (by omega)
  have s3 := runit_ok bs (p + k0 + k1 + k2) (n - k0 - k1 - k2) c k3 hy (by omega) hl h3
  have hC := fun u => pcheck_is ⟨z, o, t, 0⟩ 0 u (if_pos (by unfold Px.may; dsimp only; omega))
  have sL := pleftF bs (p + k0 + k1 + k2 + k3) (n - k0 - k1 - k2 - k3)
  have sE := pend0 bs (p + k0 + k1 + k2 + k3) (n - k0 - k1 - k2 - k3)
  have sn : (n - k0 - k1 - k2 - k3) ≤ bs.length := (by omega)
  generalize hp4 : p + k0 + k1 + k2 + k3 = p4 at *
  generalize hn4 : n - k0 - k1 - k2 - k3 = n4 at *
  generalize hp3 : p + k0 + k1 + k2 = p3 at *
  generalize hn3 : n - k0 - k1 - k2 = n3 at *
  generalize hp2 : p + k0 + k1 = p2 at *
  generalize hn2 : n - k0 - k1 = n2 at *
  generalize hp1 : p + k0 = p1 at *
  generalize hn1 : n - k0 = n1 at *
  rcases Nat.eq_zero_or_pos n4 with hq | hq
  · subst hq
    refine EW.ctEnter EW.sup1 Try.func92 rfl Try.ntmps92 rfl EW.nlP ?_; intro w0 tch ini R hR
    all_goals try (refine EW.nm ?_)
    all_goals try (refine EW.eReg (id := 0) ?_; refine EW.eAlloc ?_; refine EW.eEnd ?_; (try refine EW.nm ?_))
    all_goals try (refine EW.eReg (id := 1) ?_; refine EW.eMove ?_; (first | refine EW.eCallN [0, 1] Try.call70 (s0) ?_ | refine EW.eCallN [0, 1] Try.call70 (s1) ?_ | refine EW.eCallN [0, 1] Try.call70 (s2) ?_); refine EW.eConv ?_; refine EW.eBuild (place := fun i => [(0, 1), (1, 1), (2, 1), (3, 1)][i]?) ?_; refine EW.eAlloc ?_; (first | refine EW.eStoreW (k := 4) ?_ | refine EW.eStore (k := 4) ?_); refine EW.eEnd ?_; (try refine EW.nm ?_))
    all_goals try (refine EW.eReg (id := 2) ?_; refine EW.eAssign ?_; refine EW.eEnd ?_; (try refine EW.nm ?_))
    all_goals try (refine EW.eReg (id := 3) ?_; refine EW.eFieldAddr (k := 1) ?_; refine EW.eLoad1 ?_; refine EW.eNeq ?_; refine EW.eEnd ?_; (try refine EW.nm ?_))
    all_goals try (first | refine EW.eYes (x := .tmp 11) ?_ | refine EW.eNo (x := .tmp 11) ?_ | (refine EW.eCond (x := .tmp 11) ?_ ?_ <;> (intro hb hb'; (try dsimp only at hb'); (try (exfalso; first | omega | with_reducible exact absurd rfl hb')))))
    all_goals try (refine EW.nm ?_)
    all_goals try (refine EW.eReg (id := 4) ?_; refine EW.eMove ?_; (first | refine EW.eCallN [0, 1] Try.call70 (s0) ?_ | refine EW.eCallN [0, 1] Try.call70 (s1) ?_ | refine EW.eCallN [0, 1] Try.call70 (s2) ?_); refine EW.eMove ?_; (first | refine EW.eCallN [0, 1] Try.call70 (s0) ?_ | refine EW.eCallN [0, 1] Try.call70 (s1) ?_ | refine EW.eCallN [0, 1] Try.call70 (s2) ?_); refine EW.eMove ?_; refine EW.eCallN [0, 1] Try.call102 (s3) ?_; refine EW.eFieldAddr (k := 1) ?_; (first | refine EW.eStoreW (k := 1) ?_ | refine EW.eStore (k := 1) ?_); refine EW.eFieldAddr (k := 1) ?_; (first | refine EW.eStoreW (k := 1) ?_ | refine EW.eStore (k := 1) ?_); refine EW.eAssign ?_; refine EW.eEnd ?_; (try refine EW.nm ?_))
    all_goals try (refine EW.eReg (id := 5) ?_; refine EW.eMove ?_; refine EW.eGtr ?_; refine EW.eMove ?_)
    all_goals try (refine EW.eGuard (j := 2) (o := ⟨some 23, _, _, _, _, _⟩) ?_ ?_ <;> (intro hb hb'; (try dsimp only at hb'); (try (exfalso; first | omega | with_reducible exact absurd rfl hb'))))
    all_goals try ((first | refine EW.eSkipF (j := 2) ?_ | refine EW.eSkipU (j := 2) ?_ | refine EW.eLoadA (k := 4) ?_); (first | refine EW.eSkipF (j := 2) ?_ | refine EW.eSkipU (j := 2) ?_ | refine EW.eCall Try.call62 (fun w => hC w) ?_); (first | refine EW.eSkipF (j := 2) ?_ | refine EW.eSkipU (j := 2) ?_ | refine EW.eNeq ?_); (first | refine EW.ePickT ?_ | refine EW.ePickF ?_); refine EW.eEnd ?_; (try refine EW.nm ?_))
    all_goals try (first | refine EW.eYes (x := .tmp 26) ?_ | refine EW.eNo (x := .tmp 26) ?_ | (refine EW.eCond (x := .tmp 26) ?_ ?_ <;> (intro hb hb'; (try dsimp only at hb'); (try (exfalso; first | omega | with_reducible exact absurd rfl hb')))))
    all_goals try (refine EW.nm ?_)
    all_goals try (refine EW.eReg (id := 6) ?_; refine EW.eMove ?_; fail "no contract of (*mullion/pack.Reader).Spoil"; refine EW.eEnd ?_; (try refine EW.nm ?_))
    all_goals try (refine EW.eReg (id := 7) ?_; refine EW.eMove ?_; refine EW.eConv ?_; refine EW.eFieldAddr (k := 1) ?_; (first | refine EW.eStoreW (k := 1) ?_ | refine EW.eStore (k := 1) ?_); refine EW.eEnd ?_; (try refine EW.nm ?_))
    all_goals try (refine EW.eReg (id := 8) ?_; refine EW.eMove ?_; refine EW.eCallN [0, 1] Try.call89 (sL) ?_; refine EW.eEql ?_; refine EW.eMove ?_)
    all_goals try (refine EW.eGuard (j := 3) (o := ⟨some 36, _, _, _, _, _⟩) ?_ ?_ <;> (intro hb hb'; (try dsimp only at hb'); (try (exfalso; first | omega | with_reducible exact absurd rfl hb'))))
    all_goals try ((first | refine EW.eSkipT (j := 3) ?_ | refine EW.eSkipU (j := 3) ?_ | refine EW.eMove ?_); (first | refine EW.eSkipT (j := 3) ?_ | refine EW.eSkipU (j := 3) ?_ | refine EW.eCallN [0, 1] Try.call45 (sE) ?_); (first | refine EW.eSkipT (j := 3) ?_ | refine EW.eSkipU (j := 3) ?_ | refine EW.eNeq ?_); (first | refine EW.ePickT ?_ | refine EW.ePickF ?_); refine EW.eEnd ?_; (try refine EW.nm ?_))
    all_goals try (first | refine EW.eYes (x := .tmp 39) ?_ | refine EW.eNo (x := .tmp 39) ?_ | (refine EW.eCond (x := .tmp 39) ?_ ?_ <;> (intro hb hb'; (try dsimp only at hb'); (try (exfalso; first | omega | with_reducible exact absurd rfl hb')))))
    all_goals try (refine EW.nm ?_)
    all_goals try (refine EW.eReg (id := 9) ?_; refine EW.eBuild (place := fun i => [(0, 1), (1, 1), (2, 1), (3, 1)][i]?) ?_; (first | refine EW.eStoreW (k := 4) ?_ | refine EW.eStore (k := 4) ?_); refine EW.eEnd ?_; (try refine EW.nm ?_))
    all_goals try (with_reducible refine EW.parkK ?_)
    all_goals try (refine EW.eReg (id := 10) ?_; refine EW.eLoadA (k := 4) ?_; (first | refine EW.eStoreW (k := 4) ?_ | refine EW.eStore (k := 4) ?_); refine EW.eEnd ?_; (try refine EW.nm ?_))
    all_goals try (with_reducible refine EW.parkK ?_)
    all_goals try (refine EW.Park.mk ?_)
    all_goals (refine EW.eLeaveN [] hR EW.orP (by rfl) (by rfl) ?_ ?_ rfl rfl EW.nlP rfl rfl; rotate_left 1; (· ((repeat (first | exact EW.atE.nil | refine EW.atE.lt rfl ?_ | refine EW.atE.lf ?_ | refine EW.atE.b rfl EW.SameB.refl ?_ | (refine EW.atE.b rfl ?_ ?_; rotate_left 1))))))
    all_goals rfl
  · clear sE
    refine EW.ctEnter EW.sup1 Try.func92 rfl Try.ntmps92 rfl EW.nlP ?_; intro w0 tch ini R hR
    all_goals try (refine EW.nm ?_)
    all_goals try (refine EW.eReg (id := 0) ?_; refine EW.eAlloc ?_; refine EW.eEnd ?_; (try refine EW.nm ?_))
    all_goals try (refine EW.eReg (id := 1) ?_; refine EW.eMove ?_; (first | refine EW.eCallN [0, 1] Try.call70 (s0) ?_ | refine EW.eCallN [0, 1] Try.call70 (s1) ?_ | refine EW.eCallN [0, 1] Try.call70 (s2) ?_); refine EW.eConv ?_; refine EW.eBuild (place := fun i => [(0, 1), (1, 1), (2, 1), (3, 1)][i]?) ?_; refine EW.eAlloc ?_; (first | refine EW.eStoreW (k := 4) ?_ | refine EW.eStore (k := 4) ?_); refine EW.eEnd ?_; (try refine EW.nm ?_))
    all_goals try (refine EW.eReg (id := 2) ?_; refine EW.eAssign ?_; refine EW.eEnd ?_; (try refine EW.nm ?_))
    all_goals try (refine EW.eReg (id := 3) ?_; refine EW.eFieldAddr (k := 1) ?_; refine EW.eLoad1 ?_; refine EW.eNeq ?_; refine EW.eEnd ?_; (try refine EW.nm ?_))
    all_goals try (first | refine EW.eYes (x := .tmp 11) ?_ | refine EW.eNo (x := .tmp 11) ?_ | (refine EW.eCond (x := .tmp 11) ?_ ?_ <;> (intro hb hb'; (try dsimp only at hb'); (try (exfalso; first | omega | with_reducible exact absurd rfl hb')))))
    all_goals try (refine EW.nm ?_)
    all_goals try (refine EW.eReg (id := 4) ?_; refine EW.eMove ?_; (first | refine EW.eCallN [0, 1] Try.call70 (s0) ?_ | refine EW.eCallN [0, 1] Try.call70 (s1) ?_ | refine EW.eCallN [0, 1] Try.call70 (s2) ?_); refine EW.eMove ?_; (first | refine EW.eCallN [0, 1] Try.call70 (s0) ?_ | refine EW.eCallN [0, 1] Try.call70 (s1) ?_ | refine EW.eCallN [0, 1] Try.call70 (s2) ?_); refine EW.eMove ?_; refine EW.eCallN [0, 1] Try.call102 (s3) ?_; refine EW.eFieldAddr (k := 1) ?_; (first | refine EW.eStoreW (k := 1) ?_ | refine EW.eStore (k := 1) ?_); refine EW.eFieldAddr (k := 1) ?_; (first | refine EW.eStoreW (k := 1) ?_ | refine EW.eStore (k := 1) ?_); refine EW.eAssign ?_; refine EW.eEnd ?_; (try refine EW.nm ?_))
    all_goals try (refine EW.eReg (id := 5) ?_; refine EW.eMove ?_; refine EW.eGtr ?_; refine EW.eMove ?_)
    all_goals try (refine EW.eGuard (j := 2) (o := ⟨some 23, _, _, _, _, _⟩) ?_ ?_ <;> (intro hb hb'; (try dsimp only at hb'); (try (exfalso; first | omega | with_reducible exact absurd rfl hb'))))
    all_goals try ((first | refine EW.eSkipF (j := 2) ?_ | refine EW.eSkipU (j := 2) ?_ | refine EW.eLoadA (k := 4) ?_); (first | refine EW.eSkipF (j := 2) ?_ | refine EW.eSkipU (j := 2) ?_ | refine EW.eCall Try.call62 (fun w => hC w) ?_); (first | refine EW.eSkipF (j := 2) ?_ | refine EW.eSkipU (j := 2) ?_ | refine EW.eNeq ?_); (first | refine EW.ePickT ?_ | refine EW.ePickF ?_); refine EW.eEnd ?_; (try refine EW.nm ?_))
    all_goals try (first | refine EW.eYes (x := .tmp 26) ?_ | refine EW.eNo (x := .tmp 26) ?_ | (refine EW.eCond (x := .tmp 26) ?_ ?_ <;> (intro hb hb'; (try dsimp only at hb'); (try (exfalso; first | omega | with_reducible exact absurd rfl hb')))))
    all_goals try (refine EW.nm ?_)
    all_goals try (refine EW.eReg (id := 6) ?_; refine EW.eMove ?_; fail "no contract of (*mullion/pack.Reader).Spoil"; refine EW.eEnd ?_; (try refine EW.nm ?_))
    all_goals try (refine EW.eReg (id := 7) ?_; refine EW.eMove ?_; refine EW.eConv ?_; refine EW.eFieldAddr (k := 1) ?_; (first | refine EW.eStoreW (k := 1) ?_ | refine EW.eStore (k := 1) ?_); refine EW.eEnd ?_; (try refine EW.nm ?_))
    all_goals try (refine EW.eReg (id := 8) ?_; refine EW.eMove ?_; refine EW.eCallN [0, 1] Try.call89 (sL) ?_; refine EW.eEql ?_; refine EW.eMove ?_)
    all_goals try (refine EW.eGuard (j := 3) (o := ⟨some 36, _, _, _, _, _⟩) ?_ ?_ <;> (intro hb hb'; (try dsimp only at hb'); (try (exfalso; first | omega | with_reducible exact absurd rfl hb'))))
    all_goals try ((first | refine EW.eSkipT (j := 3) ?_ | refine EW.eSkipU (j := 3) ?_ | refine EW.eMove ?_); (first | refine EW.eSkipT (j := 3) ?_ | refine EW.eSkipU (j := 3) ?_ | fail "no contract of (*mullion/pack.Reader).End"); (first | refine EW.eSkipT (j := 3) ?_ | refine EW.eSkipU (j := 3) ?_ | refine EW.eNeq ?_); (first | refine EW.ePickT ?_ | refine EW.ePickF ?_); refine EW.eEnd ?_; (try refine EW.nm ?_))
    all_goals try (first | refine EW.eYes (x := .tmp 39) ?_ | refine EW.eNo (x := .tmp 39) ?_ | (refine EW.eCond (x := .tmp 39) ?_ ?_ <;> (intro hb hb'; (try dsimp only at hb'); (try (exfalso; first | omega | with_reducible exact absurd rfl hb')))))
    all_goals try (refine EW.nm ?_)
    all_goals try (refine EW.eReg (id := 9) ?_; refine EW.eBuild (place := fun i => [(0, 1), (1, 1), (2, 1), (3, 1)][i]?) ?_; (first | refine EW.eStoreW (k := 4) ?_ | refine EW.eStore (k := 4) ?_); refine EW.eEnd ?_; (try refine EW.nm ?_))
    all_goals try (with_reducible refine EW.parkK ?_)
    all_goals try (refine EW.eReg (id := 10) ?_; refine EW.eLoadA (k := 4) ?_; (first | refine EW.eStoreW (k := 4) ?_ | refine EW.eStore (k := 4) ?_); refine EW.eEnd ?_; (try refine EW.nm ?_))
    all_goals try (with_reducible refine EW.parkK ?_)
    all_goals try (refine EW.Park.mk ?_)
    all_goals (refine EW.eLeaveN [] hR EW.orP (by rfl) (by rfl) ?_ ?_ rfl rfl EW.nlP rfl rfl; rotate_left 1; (· ((repeat (first | exact EW.atE.nil | refine EW.atE.lt rfl ?_ | refine EW.atE.lf ?_ | refine EW.atE.b rfl EW.SameB.refl ?_ | (refine EW.atE.b rfl ?_ ?_; rotate_left 1))))))
    all_goals rfl
theorem ptake_0 (bs : List Int) (p n : Nat) (hy : By bs) (hn : p + n = bs.length) (hl : bs.length ≤ 1000000) (hf : ∀ v k, num (bs.drop p) = some (v, k) → 16777216 < v) : CT Try.prog 92 [.c (.p 0 0)] (upd EW.emp (WR bs p n false)) 2 2 (.a (pcl 0 0 0 0)) (upd (upd EW.emp (WR bs p n false)) [(.b 0, .b (.m true (rcs p n true)))]) := by
  have s0 := rsmall_no bs p n 16777216 hy (by omega) hl (by omega) hf
  have s1 := rsmall_lost bs p n 65535 (by omega)
  have s2 := rsmall_lost bs p n 63 (by omega)
  have s3 := runit_lost bs p n 
  have hC := fun u => pcheck_is ⟨0, 0, 0, 0⟩ 130 u (if_neg (by unfold Px.may; dsimp only; omega))
  have sL := pleftT bs p n
  have sE := pendT bs p n
  have sP := rspoil bs p n true
  refine EW.ctEnter EW.sup1 Try.func92 rfl Try.ntmps92 rfl EW.nlP ?_; intro w0 tch ini R hR
  all_goals try (refine EW.nm ?_)
  all_goals try (refine EW.eReg (id := 0) ?_; refine EW.eAlloc ?_; refine EW.eEnd ?_; (try refine EW.nm ?_))
  all_goals try (refine EW.eReg (id := 1) ?_; refine EW.eMove ?_; (first | refine EW.eCallN [0, 1] Try.call70 (s0) ?_ | refine EW.eCallN [0, 1] Try.call70 (s1) ?_ | refine EW.eCallN [0, 1] Try.call70 (s2) ?_); refine EW.eConv ?_; refine EW.eBuild (place := fun i => [(0, 1), (1, 1), (2, 1), (3, 1)][i]?) ?_; refine EW.eAlloc ?_; (first | refine EW.eStoreW (k := 4) ?_ | refine EW.eStore (k := 4) ?_); refine EW.eEnd ?_; (try refine EW.nm ?_))
  all_goals try (refine EW.eReg (id := 2) ?_; refine EW.eAssign ?_; refine EW.eEnd ?_; (try refine EW.nm ?_))
  all_goals try (refine EW.eReg (id := 3) ?_; refine EW.eFieldAddr (k := 1) ?_; refine EW.eLoad1 ?_; refine EW.eNeq ?_; refine EW.eEnd ?_; (try refine EW.nm ?_))
  all_goals try (first | refine EW.eYes (x := .tmp 11) ?_ | refine EW.eNo (x := .tmp 11) ?_ | (refine EW.eCond (x := .tmp 11) ?_ ?_ <;> (intro hb hb'; (try dsimp only at hb'); (try (exfalso; first | omega | with_reducible exact absurd rfl hb')))))
  all_goals try (refine EW.nm ?_)
  all_goals try (refine EW.eReg (id := 4) ?_; refine EW.eMove ?_; (first | refine EW.eCallN [0, 1] Try.call70 (s0) ?_ | refine EW.eCallN [0, 1] Try.call70 (s1) ?_ | refine EW.eCallN [0, 1] Try.call70 (s2) ?_); refine EW.eMove ?_; (first | refine EW.eCallN [0, 1] Try.call70 (s0) ?_ | refine EW.eCallN [0, 1] Try.call70 (s1) ?_ | refine EW.eCallN [0, 1] Try.call70 (s2) ?_); refine EW.eMove ?_; refine EW.eCallN [0, 1] Try.call102 (s3) ?_; refine EW.eFieldAddr (k := 1) ?_; (first | refine EW.eStoreW (k := 1) ?_ | refine EW.eStore (k := 1) ?_); refine EW.eFieldAddr (k := 1) ?_; (first | refine EW.eStoreW (k := 1) ?_ | refine EW.eStore (k := 1) ?_); refine EW.eAssign ?_; refine EW.eEnd ?_; (try refine EW.nm ?_))
  all_goals try (refine EW.eReg (id := 5) ?_; refine EW.eMove ?_; refine EW.eGtr ?_; refine EW.eMove ?_)
  all_goals try (refine EW.eGuard (j := 2) (o := ⟨some 23, _, _, _, _, _⟩) ?_ ?_ <;> (intro hb hb'; (try dsimp only at hb'); (try (exfalso; first | omega | with_reducible exact absurd rfl hb'))))
  all_goals try ((first | refine EW.eSkipF (j := 2) ?_ | refine EW.eSkipU (j := 2) ?_ | refine EW.eLoadA (k := 4) ?_); (first | refine EW.eSkipF (j := 2) ?_ | refine EW.eSkipU (j := 2) ?_ | refine EW.eCall Try.call62 (fun w => hC w) ?_); (first | refine EW.eSkipF (j := 2) ?_ | refine EW.eSkipU (j := 2) ?_ | refine EW.eNeq ?_); (first | refine EW.ePickT ?_ | refine EW.ePickF ?_); refine EW.eEnd ?_; (try refine EW.nm ?_))
  all_goals try (first | refine EW.eYes (x := .tmp 26) ?_ | refine EW.eNo (x := .tmp 26) ?_ | (refine EW.eCond (x := .tmp 26) ?_ ?_ <;> (intro hb hb'; (try dsimp only at hb'); (try (exfalso; first | omega | with_reducible exact absurd rfl hb')))))
  all_goals try (refine EW.nm ?_)
  all_goals try (refine EW.eReg (id := 6) ?_; refine EW.eMove ?_; refine EW.eCallN [0, 1] Try.call72 (sP) ?_; refine EW.eEnd ?_; (try refine EW.nm ?_))
  all_goals try (refine EW.eReg (id := 7) ?_; refine EW.eMove ?_; refine EW.eConv ?_; refine EW.eFieldAddr (k := 1) ?_; (first | refine EW.eStoreW (k := 1) ?_ | refine EW.eStore (k := 1) ?_); refine EW.eEnd ?_; (try refine EW.nm ?_))
  all_goals try (refine EW.eReg (id := 8) ?_; refine EW.eMove ?_; refine EW.eCallN [0, 1] Try.call89 (sL) ?_; refine EW.eEql ?_; refine EW.eMove ?_)
  all_goals try (refine EW.eGuard (j := 3) (o := ⟨some 36, _, _, _, _, _⟩) ?_ ?_ <;> (intro hb hb'; (try dsimp only at hb'); (try (exfalso; first | omega | with_reducible exact absurd rfl hb'))))
  all_goals try ((first | refine EW.eSkipT (j := 3) ?_ | refine EW.eSkipU (j := 3) ?_ | refine EW.eMove ?_); (first | refine EW.eSkipT (j := 3) ?_ | refine EW.eSkipU (j := 3) ?_ | refine EW.eCallN [0, 1] Try.call45 (sE) ?_); (first | refine EW.eSkipT (j := 3) ?_ | refine EW.eSkipU (j := 3) ?_ | refine EW.eNeq ?_); (first | refine EW.ePickT ?_ | refine EW.ePickF ?_); refine EW.eEnd ?_; (try refine EW.nm ?_))
  all_goals try (first | refine EW.eYes (x := .tmp 39) ?_ | refine EW.eNo (x := .tmp 39) ?_ | (refine EW.eCond (x := .tmp 39) ?_ ?_ <;> (intro hb hb'; (try dsimp only at hb'); (try (exfalso; first | omega | with_reducible exact absurd rfl hb')))))
  all_goals try (refine EW.nm ?_)
  all_goals try (refine EW.eReg (id := 9) ?_; refine EW.eBuild (place := fun i => [(0, 1), (1, 1), (2, 1), (3, 1)][i]?) ?_; (first | refine EW.eStoreW (k := 4) ?_ | refine EW.eStore (k := 4) ?_); refine EW.eEnd ?_; (try refine EW.nm ?_))
  all_goals try (with_reducible refine EW.parkK ?_)
  all_goals try (refine EW.eReg (id := 10) ?_; refine EW.eLoadA (k := 4) ?_; (first | refine EW.eStoreW (k := 4) ?_ | refine EW.eStore (k := 4) ?_); refine EW.eEnd ?_; (try refine EW.nm ?_))
  all_goals try (with_reducible refine EW.parkK ?_)
  all_goals try (refine EW.Park.mk ?_)
  all_goals (refine EW.eLeaveN [] hR EW.orP (by rfl) (by rfl) ?_ ?_ rfl rfl EW.nlP rfl rfl; rotate_left 1; (· ((repeat (first | exact EW.atE.nil | refine EW.atE.lt rfl ?_ | refine EW.atE.lf ?_ | refine EW.atE.b rfl EW.SameB.refl ?_ | (refine EW.atE.b rfl ?_ ?_; rotate_left 1))))))
  all_goals rfl
theorem ptake_1 (bs : List Int) (p n z k0 : Nat) (hy : By bs) (hn : p + n = bs.length) (hl : bs.length ≤ 1000000) (h0 : num (bs.drop p) = some (z, k0)) (e1 : k0 ≤ n) (hz : z < 16777216) (hf : ∀ v k, num (bs.drop (p + k0)) = some (v, k) → 65535 < v) : CT Try.prog 92 [.c (.p 0 0)] (upd EW.emp (WR bs p n false)) 2 2 (.a (pcl 0 0 0 0)) (upd (upd EW.emp (WR bs p n false)) [(.b 0, .b (.m true (rcs (p + k0) (n - k0) true)))]) := by
  have s0 := rsmall_ok bs p n 16777216 z k0 hy (by omega) hl (by omega) h0 (by omega)
  have s1 := rsmall_no bs (p + k0) (n - k0) 65535 hy (by omega) hl (by omega) hf
  have s2 := rsmall_lost bs (p + k0) (n - k0) 63 (by omega)
  have s3 := runit_lost bs (p + k0) (n - k0) 
  have hC := fun u => pcheck_is ⟨z, 0, 0, 0⟩ 130 u (if_neg (by unfold Px.may; dsimp only; omega))
  have sL := pleftT bs (p + k0) (n - k0)
  have sE := pendT bs (p + k0) (n - k0)
  have sP := rspoil bs (p + k0) (n - k0) true
  generalize hp1 : p + k0 = p1 at *
  generalize hn1 : n - k0 = n1 at *
  refine EW.ctEnter EW.sup1 Try.func92 rfl Try.ntmps92 rfl EW.nlP ?_; intro w0 tch ini R hR
  all_goals try (refine EW.nm ?_)
  all_goals try (refine EW.eReg (id := 0) ?_; refine EW.eAlloc ?_; refine EW.eEnd ?_; (try refine EW.nm ?_))
  all_goals try (refine EW.eReg (id := 1) ?_; refine EW.eMove ?_; (first | refine EW.eCallN [0, 1] Try.call70 (s0) ?_ | refine EW.eCallN [0, 1] Try.call70 (s1) ?_ | refine EW.eCallN [0, 1] Try.call70 (s2) ?_); refine EW.eConv ?_; refine EW.eBuild (place := fun i => [(0, 1), (1, 1), (2, 1), (3, 1)][i]?) ?_; refine EW.eAlloc ?_; (first | refine EW.eStoreW (k := 4) ?_ | refine EW.eStore (k := 4) ?_); refine EW.eEnd ?_; (try refine EW.nm ?_))
  all_goals try (refine EW.eReg (id := 2) ?_; refine EW.eAssign ?_; refine EW.eEnd ?_; (try refine EW.nm ?_))
  all_goals try (refine EW.eReg (id := 3) ?_; refine EW.eFieldAddr (k := 1) ?_; refine EW.eLoad1 ?_; refine EW.eNeq ?_; refine EW.eEnd ?_; (try refine EW.nm ?_))
  all_goals try (first | refine EW.eYes (x := .tmp 11) ?_ | refine EW.eNo (x := .tmp 11) ?_ | (refine EW.eCond (x := .tmp 11) ?_ ?_ <;> (intro hb hb'; (try dsimp only at hb'); (try (exfalso; first | omega | with_reducible exact absurd rfl hb')))))
  all_goals try (refine EW.nm ?_)
  all_goals try (refine EW.eReg (id := 4) ?_; refine EW.eMove ?_; (first | refine EW.eCallN [0, 1] Try.call70 (s0) ?_ | refine EW.eCallN [0, 1] Try.call70 (s1) ?_ | refine EW.eCallN [0, 1] Try.call70 (s2) ?_); refine EW.eMove ?_; (first | refine EW.eCallN [0, 1] Try.call70 (s0) ?_ | refine EW.eCallN [0, 1] Try.call70 (s1) ?_ | refine EW.eCallN [0, 1] Try.call70 (s2) ?_); refine EW.eMove ?_; refine EW.eCallN [0, 1] Try.call102 (s3) ?_; refine EW.eFieldAddr (k := 1) ?_; (first | refine EW.eStoreW (k := 1) ?_ | refine EW.eStore (k := 1) ?_); refine EW.eFieldAddr (k := 1) ?_; (first | refine EW.eStoreW (k := 1) ?_ | refine EW.eStore (k := 1) ?_); refine EW.eAssign ?_; refine EW.eEnd ?_; (try refine EW.nm ?_))
  all_goals try (refine EW.eReg (id := 5) ?_; refine EW.eMove ?_; refine EW.eGtr ?_; refine EW.eMove ?_)
  all_goals try (refine EW.eGuard (j := 2) (o := ⟨some 23, _, _, _, _, _⟩) ?_ ?_ <;> (intro hb hb'; (try dsimp only at hb'); (try (exfalso; first | omega | with_reducible exact absurd rfl hb'))))
  all_goals try ((first | refine EW.eSkipF (j := 2) ?_ | refine EW.eSkipU (j := 2) ?_ | refine EW.eLoadA (k := 4) ?_); (first | refine EW.eSkipF (j := 2) ?_ | refine EW.eSkipU (j := 2) ?_ | refine EW.eCall Try.call62 (fun w => hC w) ?_); (first | refine EW.eSkipF (j := 2) ?_ | refine EW.eSkipU (j := 2) ?_ | refine EW.eNeq ?_); (first | refine EW.ePickT ?_ | refine EW.ePickF ?_); refine EW.eEnd ?_; (try refine EW.nm ?_))
  all_goals try (first | refine EW.eYes (x := .tmp 26) ?_ | refine EW.eNo (x := .tmp 26) ?_ | (refine EW.eCond (x := .tmp 26) ?_ ?_ <;> (intro hb hb'; (try dsimp only at hb'); (try (exfalso; first | omega | with_reducible exact absurd rfl hb')))))
  all_goals try (refine EW.nm ?_)
  all_goals try (refine EW.eReg (id := 6) ?_; refine EW.eMove ?_; refine EW.eCallN [0, 1] Try.call72 (sP) ?_; refine EW.eEnd ?_; (try refine EW.nm ?_))
  all_goals try (refine EW.eReg (id := 7) ?_; refine EW.eMove ?_; refine EW.eConv ?_; refine EW.eFieldAddr (k := 1) ?_; (first | refine EW.eStoreW (k := 1) ?_ | refine EW.eStore (k := 1) ?_); refine EW.eEnd ?_; (try refine EW.nm ?_))
  all_goals try (refine EW.eReg (id := 8) ?_; refine EW.eMove ?_; refine EW.eCallN [0, 1] Try.call89 (sL) ?_; refine EW.eEql ?_; refine EW.eMove ?_)
  all_goals try (refine EW.eGuard (j := 3) (o := ⟨some 36, _, _, _, _, _⟩) ?_ ?_ <;> (intro hb hb'; (try dsimp only at hb'); (try (exfalso; first | omega | with_reducible exact absurd rfl hb'))))
  all_goals try ((first | refine EW.eSkipT (j := 3) ?_ | refine EW.eSkipU (j := 3) ?_ | refine EW.eMove ?_); (first | refine EW.eSkipT (j := 3) ?_ | refine EW.eSkipU (j := 3) ?_ | refine EW.eCallN [0, 1] Try.call45 (sE) ?_); (first | refine EW.eSkipT (j := 3) ?_ | refine EW.eSkipU (j := 3) ?_ | refine EW.eNeq ?_); (first | refine EW.ePickT ?_ | refine EW.ePickF ?_); refine EW.eEnd ?_; (try refine EW.nm ?_))
  all_goals try (first | refine EW.eYes (x := .tmp 39) ?_ | refine EW.eNo (x := .tmp 39) ?_ | (refine EW.eCond (x := .tmp 39) ?_ ?_ <;> (intro hb hb'; (try dsimp only at hb'); (try (exfalso; first | omega | with_reducible exact absurd rfl hb')))))
  all_goals try (refine EW.nm ?_)
  all_goals try (refine EW.eReg (id := 9) ?_; refine EW.eBuild (place := fun i => [(0, 1), (1, 1), (2, 1), (3, 1)][i]?) ?_; (first | refine EW.eStoreW (k := 4) ?_ | refine EW.eStore (k := 4) ?_); refine EW.eEnd ?_; (try refine EW.nm ?_))
  all_goals try (with_reducible refine EW.parkK ?_)
  all_goals try (refine EW.eReg (id := 10) ?_; refine EW.eLoadA (k := 4) ?_; (first | refine EW.eStoreW (k := 4) ?_ | refine EW.eStore (k := 4) ?_); refine EW.eEnd ?_; (try refine EW.nm ?_))
  all_goals try (with_reducible refine EW.parkK ?_)
  all_goals try (refine EW.Park.mk ?_)
  all_goals (refine EW.eLeaveN [] hR EW.orP (by rfl) (by rfl) ?_ ?_ rfl rfl EW.nlP rfl rfl; rotate_left 1; (· ((repeat (first | exact EW.atE.nil | refine EW.atE.lt rfl ?_ | refine EW.atE.lf ?_ | refine EW.atE.b rfl EW.SameB.refl ?_ | (refine EW.atE.b rfl ?_ ?_; rotate_left 1))))))
  all_goals rfl
theorem ptake_2a (bs : List Int) (p n z k0 o k1 : Nat) (hy : By bs) (hn : p + n = bs.length) (hl : bs.length ≤ 1000000) (h0 : num (bs.drop p) = some (z, k0)) (e1 : k0 ≤ n) (h1 : num (bs.drop (p + k0)) = some (o, k1)) (e2 : k0 + k1 ≤ n) (hz : z < 16777216) (ho : o ≤ 65535) (hf : ∀ v k, num (bs.drop (p + k0 + k1)) = some (v, k) → 63 < v) (o1 : 1 ≤ o) : CT Try.prog 92 [.c (.p 0 0)] (upd EW.emp (WR bs p n false)) 2 2 (.a (pcl 0 0 0 0)) (upd (upd EW.emp (WR bs p n false)) [(.b 0, .b (.m true (rcs (p + k0 + k1) (n - k0 - k1) true)))]) := by
  have s0 := rsmall_ok bs p n 16777216 z k0 hy (by omega) hl (by omega) h0 (by omega)
  have s1 := rsmall_ok bs (p + k0) (n - k0) 65535 o k1 hy (by omega) hl (by omega) h1 (by omega)
  have s2 := rsmall_no bs (p + k0 + k1) (n - k0 - k1) 63 hy (by omega) hl (by omega) hf
  have s3 := runit_lost bs (p + k0 + k1) (n - k0 - k1) 
  have hC := fun u => pcheck_is ⟨z, o, 0, 0⟩ 0 u (if_pos (by unfold Px.may; dsimp only; omega))
  have sL := pleftT bs (p + k0 + k1) (n - k0 - k1)
  have sE := pendT bs (p + k0 + k1) (n - k0 - k1)
  have sP := rspoil bs (p + k0 + k1) (n - k0 - k1) true
  generalize hp2 : p + k0 + k1 = p2 at *
  generalize hn2 : n - k0 - k1 = n2 at *
  generalize hp1 : p + k0 = p1 at *
  generalize hn1 : n - k0 = n1 at *
  refine EW.ctEnter EW.sup1 Try.func92 rfl Try.ntmps92 rfl EW.nlP ?_; intro w0 tch ini R hR
  all_goals try (refine EW.nm ?_)
  all_goals try (refine EW.eReg (id := 0) ?_; refine EW.eAlloc ?_; refine EW.eEnd ?_; (try refine EW.nm ?_))
  all_goals try (refine EW.eReg (id := 1) ?_; refine EW.eMove ?_; (first | refine EW.eCallN [0, 1] Try.call70 (s0) ?_ | refine EW.eCallN [0, 1] Try.call70 (s1) ?_ | refine EW.eCallN [0, 1] Try.call70 (s2) ?_); refine EW.eConv ?_; refine EW.eBuild (place := fun i => [(0, 1), (1, 1), (2, 1), (3, 1)][i]?) ?_; refine EW.eAlloc ?_; (first | refine EW.eStoreW (k := 4) ?_ | refine EW.eStore (k := 4) ?_); refine EW.eEnd ?_; (try refine EW.nm ?_))
  all_goals try (refine EW.eReg (id := 2) ?_; refine EW.eAssign ?_; refine EW.eEnd ?_; (try refine EW.nm ?_))
  all_goals try (refine EW.eReg (id := 3) ?_; refine EW.eFieldAddr (k := 1) ?_; refine EW.eLoad1 ?_; refine EW.eNeq ?_; refine EW.eEnd ?_; (try refine EW.nm ?_))
  all_goals try (first | refine EW.eYes (x := .tmp 11) ?_ | refine EW.eNo (x := .tmp 11) ?_ | (refine EW.eCond (x := .tmp 11) ?_ ?_ <;> (intro hb hb'; (try dsimp only at hb'); (try (exfalso; first | omega | with_reducible exact absurd rfl hb')))))
  all_goals try (refine EW.nm ?_)
  all_goals try (refine EW.eReg (id := 4) ?_; refine EW.eMove ?_; (first | refine EW.eCallN [0, 1] Try.call70 (s0) ?_ | refine EW.eCallN [0, 1] Try.call70 (s1) ?_ | refine EW.eCallN [0, 1] Try.call70 (s2) ?_); refine EW.eMove ?_; (first | refine EW.eCallN [0, 1] Try.call70 (s0) ?_ | refine EW.eCallN [0, 1] Try.call70 (s1) ?_ | refine EW.eCallN [0, 1] Try.call70 (s2) ?_); refine EW.eMove ?_; refine EW.eCallN [0, 1] Try.call102 (s3) ?_; refine EW.eFieldAddr (k := 1) ?_; (first | refine EW.eStoreW (k := 1) ?_ | refine EW.eStore (k := 1) ?_); refine EW.eFieldAddr (k := 1) ?_; (first | refine EW.eStoreW (k := 1) ?_ | refine EW.eStore (k := 1) ?_); refine EW.eAssign ?_; refine EW.eEnd ?_; (try refine EW.nm ?_))
  all_goals try (refine EW.eReg (id := 5) ?_; refine EW.eMove ?_; refine EW.eGtr ?_; refine EW.eMove ?_)
  all_goals try (refine EW.eGuard (j := 2) (o := ⟨some 23, _, _, _, _, _⟩) ?_ ?_ <;> (intro hb hb'; (try dsimp only at hb'); (try (exfalso; first | omega | with_reducible exact absurd rfl hb'))))
  all_goals try ((first | refine EW.eSkipF (j := 2) ?_ | refine EW.eSkipU (j := 2) ?_ | refine EW.eLoadA (k := 4) ?_); (first | refine EW.eSkipF (j := 2) ?_ | refine EW.eSkipU (j := 2) ?_ | refine EW.eCall Try.call62 (fun w => hC w) ?_); (first | refine EW.eSkipF (j := 2) ?_ | refine EW.eSkipU (j := 2) ?_ | refine EW.eNeq ?_); (first | refine EW.ePickT ?_ | refine EW.ePickF ?_); refine EW.eEnd ?_; (try refine EW.nm ?_))
  all_goals try (first | refine EW.eYes (x := .tmp 26) ?_ | refine EW.eNo (x := .tmp 26) ?_ | (refine EW.eCond (x := .tmp 26) ?_ ?_ <;> (intro hb hb'; (try dsimp only at hb'); (try (exfalso; first | omega | with_reducible exact absurd rfl hb')))))
  all_goals try (refine EW.nm ?_)
  all_goals try (refine EW.eReg (id := 6) ?_; refine EW.eMove ?_; refine EW.eCallN [0, 1] Try.call72 (sP) ?_; refine EW.eEnd ?_; (try refine EW.nm ?_))
  all_goals try (refine EW.eReg (id := 7) ?_; refine EW.eMove ?_; refine EW.eConv ?_; refine EW.eFieldAddr (k := 1) ?_; (first | refine EW.eStoreW (k := 1) ?_ | refine EW.eStore (k := 1) ?_); refine EW.eEnd ?_; (try refine EW.nm ?_))
  all_goals try (refine EW.eReg (id := 8) ?_; refine EW.eMove ?_; refine EW.eCallN [0, 1] Try.call89 (sL) ?_; refine EW.eEql ?_; refine EW.eMove ?_)
  all_goals try (refine EW.eGuard (j := 3) (o := ⟨some 36, _, _, _, _, _⟩) ?_ ?_ <;> (intro hb hb'; (try dsimp only at hb'); (try (exfalso; first | omega | with_reducible exact absurd rfl hb'))))
  all_goals try ((first | refine EW.eSkipT (j := 3) ?_ | refine EW.eSkipU (j := 3) ?_ | refine EW.eMove ?_); (first | refine EW.eSkipT (j := 3) ?_ | refine EW.eSkipU (j := 3) ?_ | refine EW.eCallN [0, 1] Try.call45 (sE) ?_); (first | refine EW.eSkipT (j := 3) ?_ | refine EW.eSkipU (j := 3) ?_ | refine EW.eNeq ?_); (first | refine EW.ePickT ?_ | refine EW.ePickF ?_); refine EW.eEnd ?_; (try refine EW.nm ?_))
  all_goals try (first | refine EW.eYes (x := .tmp 39) ?_ | refine EW.eNo (x := .tmp 39) ?_ | (refine EW.eCond (x := .tmp 39) ?_ ?_ <;> (intro hb hb'; (try dsimp only at hb'); (try (exfalso; first | omega | with_reducible exact absurd rfl hb')))))
  all_goals try (refine EW.nm ?_)
  all_goals try (refine EW.eReg (id := 9) ?_; refine EW.eBuild (place := fun i => [(0, 1), (1, 1), (2, 1), (3, 1)][i]?) ?_; (first | refine EW.eStoreW (k := 4) ?_ | refine EW.eStore (k := 4) ?_); refine EW.eEnd ?_; (try refine EW.nm ?_))
  all_goals try (with_reducible refine EW.parkK ?_)
  all_goals try (refine EW.eReg (id := 10) ?_; refine EW.eLoadA (k := 4) ?_; (first | refine EW.eStoreW (k := 4) ?_ | refine EW.eStore (k := 4) ?_); refine EW.eEnd ?_; (try refine EW.nm ?_))
  all_goals try (with_reducible refine EW.parkK ?_)
  all_goals try (refine EW.Park.mk ?_)
  all_goals (refine EW.eLeaveN [] hR EW.orP (by rfl) (by rfl) ?_ ?_ rfl rfl EW.nlP rfl rfl; rotate_left 1; (· ((repeat (first | exact EW.atE.nil | refine EW.atE.lt rfl ?_ | refine EW.atE.lf ?_ | refine EW.atE.b rfl EW.SameB.refl ?_ | (refine EW.atE.b rfl ?_ ?_; rotate_left 1))))))
  all_goals rfl
theorem ptake_2b (bs : List Int) (p n z k0 o k1 : Nat) (hy : By bs) (hn : p + n = bs.length) (hl : bs.length ≤ 1000000) (h0 : num (bs.drop p) = some (z, k0)) (e1 : k0 ≤ n) (h1 : num (bs.drop (p + k0)) = some (o, k1)) (e2 : k0 + k1 ≤ n) (hz : z < 16777216) (ho : o ≤ 65535) (hf : ∀ v k, num (bs.drop (p + k0 + k1)) = some (v, k) → 63 < v) (o1 : o = 0) : CT Try.prog 92 [.c (.p 0 0)] (upd EW.emp (WR bs p n false)) 2 2 (.a (pcl 0 0 0 0)) (upd (upd EW.emp (WR bs p n false)) [(.b 0, .b (.m true (rcs (p + k0 + k1) (n - k0 - k1) true)))]) := by
  have s0 := rsmall_ok bs p n 16777216 z k0 hy (by omega) hl (by omega) h0 (by omega)
  have s1 := rsmall_ok bs (p + k0) (n - k0) 65535 o k1 hy (by omega) hl (by omega) h1 (by omega)
  have s2 := rsmall_no bs (p + k0 + k1) (n - k0 - k1) 63 hy (by omega) hl (by omega) hf
  have s3 := runit_lost bs (p + k0 + k1) (n - k0 - k1) 
  have hC := fun u => pcheck_is ⟨z, o, 0, 0⟩ 130 u (if_neg (by unfold Px.may; dsimp only; omega))
  have sL := pleftT bs (p + k0 + k1) (n - k0 - k1)
  have sE := pendT bs (p + k0 + k1) (n - k0 - k1)
  have sP := rspoil bs (p + k0 + k1) (n - k0 - k1) true
  generalize hp2 : p + k0 + k1 = p2 at *
  generalize hn2 : n - k0 - k1 = n2 at *
  generalize hp1 : p + k0 = p1 at *
  generalize hn1 : n - k0 = n1 at *
  refine EW.ctEnter EW.sup1 Try.func92 rfl Try.ntmps92 rfl EW.nlP ?_; intro w0 tch ini R hR
  all_goals try (refine EW.nm ?_)
  all_goals try (refine EW.eReg (id := 0) ?_; refine EW.eAlloc ?_; refine EW.eEnd ?_; (try refine EW.nm ?_))
  all_goals try (refine EW.eReg (id := 1) ?_; refine EW.eMove ?_; (first | refine EW.eCallN [0, 1] Try.call70 (s0) ?_ | refine EW.eCallN [0, 1] Try.call70 (s1) ?_ | refine EW.eCallN [0, 1] Try.call70 (s2) ?_); refine EW.eConv ?_; refine EW.eBuild (place := fun i => [(0, 1), (1, 1), (2, 1), (3, 1)][i]?) ?_; refine EW.eAlloc ?_; (first | refine EW.eStoreW (k := 4) ?_ | refine EW.eStore (k := 4) ?_); refine EW.eEnd ?_; (try refine EW.nm ?_))
  all_goals try (refine EW.eReg (id := 2) ?_; refine EW.eAssign ?_; refine EW.eEnd ?_; (try refine EW.nm ?_))
  all_goals try (refine EW.eReg (id := 3) ?_; refine EW.eFieldAddr (k := 1) ?_; refine EW.eLoad1 ?_; refine EW.eNeq ?_; refine EW.eEnd ?_; (try refine EW.nm ?_))
  all_goals try (first | refine EW.eYes (x := .tmp 11) ?_ | refine EW.eNo (x := .tmp 11) ?_ | (refine EW.eCond (x := .tmp 11) ?_ ?_ <;> (intro hb hb'; (try dsimp only at hb'); (try (exfalso; first | omega | with_reducible exact absurd rfl hb')))))
  all_goals try (refine EW.nm ?_)
  all_goals try (refine EW.eReg (id := 4) ?_; refine EW.eMove ?_; (first | refine EW.eCallN [0, 1] Try.call70 (s0) ?_ | refine EW.eCallN [0, 1] Try.call70 (s1) ?_ | refine EW.eCallN [0, 1] Try.call70 (s2) ?_); refine EW.eMove ?_; (first | refine EW.eCallN [0, 1] Try.call70 (s0) ?_ | refine EW.eCallN [0, 1] Try.call70 (s1) ?_ | refine EW.eCallN [0, 1] Try.call70 (s2) ?_); refine EW.eMove ?_; refine EW.eCallN [0, 1] Try.call102 (s3) ?_; refine EW.eFieldAddr (k := 1) ?_; (first | refine EW.eStoreW (k := 1) ?_ | refine EW.eStore (k := 1) ?_); refine EW.eFieldAddr (k := 1) ?_; (first | refine EW.eStoreW (k := 1) ?_ | refine EW.eStore (k := 1) ?_); refine EW.eAssign ?_; refine EW.eEnd ?_; (try refine EW.nm ?_))
  all_goals try (refine EW.eReg (id := 5) ?_; refine EW.eMove ?_; refine EW.eGtr ?_; refine EW.eMove ?_)
  all_goals try (refine EW.eGuard (j := 2) (o := ⟨some 23, _, _, _, _, _⟩) ?_ ?_ <;> (intro hb hb'; (try dsimp only at hb'); (try (exfalso; first | omega | with_reducible exact absurd rfl hb'))))
  all_goals try ((first | refine EW.eSkipF (j := 2) ?_ | refine EW.eSkipU (j := 2) ?_ | refine EW.eLoadA (k := 4) ?_); (first | refine EW.eSkipF (j := 2) ?_ | refine EW.eSkipU (j := 2) ?_ | refine EW.eCall Try.call62 (fun w => hC w) ?_); (first | refine EW.eSkipF (j := 2) ?_ | refine EW.eSkipU (j := 2) ?_ | refine EW.eNeq ?_); (first | refine EW.ePickT ?_ | refine EW.ePickF ?_); refine EW.eEnd ?_; (try refine EW.nm ?_))
  all_goals try (first | refine EW.eYes (x := .tmp 26) ?_ | refine EW.eNo (x := .tmp 26) ?_ | (refine EW.eCond (x := .tmp 26) ?_ ?_ <;> (intro hb hb'; (try dsimp only at hb'); (try (exfalso; first | omega | with_reducible exact absurd rfl hb')))))
  all_goals try (refine EW.nm ?_)
  all_goals try (refine EW.eReg (id := 6) ?_; refine EW.eMove ?_; refine EW.eCallN [0, 1] Try.call72 (sP) ?_; refine EW.eEnd ?_; (try refine EW.nm ?_))
  all_goals try (refine EW.eReg (id := 7) ?_; refine EW.eMove ?_; refine EW.eConv ?_; refine EW.eFieldAddr (k := 1) ?_; (first | refine EW.eStoreW (k := 1) ?_ | refine EW.eStore (k := 1) ?_); refine EW.eEnd ?_; (try refine EW.nm ?_))
  all_goals try (refine EW.eReg (id := 8) ?_; refine EW.eMove ?_; refine EW.eCallN [0, 1] Try.call89 (sL) ?_; refine EW.eEql ?_; refine EW.eMove ?_)
  all_goals try (refine EW.eGuard (j := 3) (o := ⟨some 36, _, _, _, _, _⟩) ?_ ?_ <;> (intro hb hb'; (try dsimp only at hb'); (try (exfalso; first | omega | with_reducible exact absurd rfl hb'))))
  all_goals try ((first | refine EW.eSkipT (j := 3) ?_ | refine EW.eSkipU (j := 3) ?_ | refine EW.eMove ?_); (first | refine EW.eSkipT (j := 3) ?_ | refine EW.eSkipU (j := 3) ?_ | refine EW.eCallN [0, 1] Try.call45 (sE) ?_); (first | refine EW.eSkipT (j := 3) ?_ | refine EW.eSkipU (j := 3) ?_ | refine EW.eNeq ?_); (first | refine EW.ePickT ?_ | refine EW.ePickF ?_); refine EW.eEnd ?_; (try refine EW.nm ?_))
  all_goals try (first | refine EW.eYes (x := .tmp 39) ?_ | refine EW.eNo (x := .tmp 39) ?_ | (refine EW.eCond (x := .tmp 39) ?_ ?_ <;> (intro hb hb'; (try dsimp only at hb'); (try (exfalso; first | omega | with_reducible exact absurd rfl hb')))))
  all_goals try (refine EW.nm ?_)
  all_goals try (refine EW.eReg (id := 9) ?_; refine EW.eBuild (place := fun i => [(0, 1), (1, 1), (2, 1), (3, 1)][i]?) ?_; (first | refine EW.eStoreW (k := 4) ?_ | refine EW.eStore (k := 4) ?_); refine EW.eEnd ?_; (try refine EW.nm ?_))
  all_goals try (with_reducible refine EW.parkK ?_)
  all_goals try (refine EW.eReg (id := 10) ?_; refine EW.eLoadA (k := 4) ?_; (first | refine EW.eStoreW (k := 4) ?_ | refine EW.eStore (k := 4) ?_); refine EW.eEnd ?_; (try refine EW.nm ?_))
  all_goals try (with_reducible refine EW.parkK ?_)
  all_goals try (refine EW.Park.mk ?_)
  all_goals (refine EW.eLeaveN [] hR EW.orP (by rfl) (by rfl) ?_ ?_ rfl rfl EW.nlP rfl rfl; rotate_left 1; (· ((repeat (first | exact EW.atE.nil | refine EW.atE.lt rfl ?_ | refine EW.atE.lf ?_ | refine EW.atE.b rfl EW.SameB.refl ?_ | (refine EW.atE.b rfl ?_ ?_; rotate_left 1))))))
  all_goals rfl
theorem ptake_3a (bs : List Int) (p n z k0 o k1 t k2 : Nat) (hy : By bs) (hn : p + n = bs.length) (hl : bs.length ≤ 1000000) (h0 : num (bs.drop p) = some (z, k0)) (e1 : k0 ≤ n) (h1 : num (bs.drop (p + k0)) = some (o, k1)) (e2 : k0 + k1 ≤ n) (h2 : num (bs.drop (p + k0 + k1)) = some (t, k2)) (e3 : k0 + k1 + k2 ≤ n) (hz : z < 16777216) (ho : o ≤ 65535) (ht : t ≤ 63) (hf : num (bs.drop (p + k0 + k1 + k2)) = none) (o1 : 1 ≤ o) : CT Try.prog 92 [.c (.p 0 0)] (upd EW.emp (WR bs p n false)) 2 2 (.a (pcl 0 0 0 0)) (upd (upd EW.emp (WR bs p n false)) [(.b 0, .b (.m true (rcs (p + k0 + k1 + k2) (n - k0 - k1 - k2) true)))]) := by
  have s0 := rsmall_ok bs p n 16777216 z k0 hy (by omega) hl (by omega) h0 (by omega)
  have s1 := rsmall_ok bs (p + k0) (n - k0) 65535 o k1 hy (by omega) hl (by omega) h1 (by omega)
  have s2 := rsmall_ok bs (p + k0 + k1) (n - k0 - k1) 63 t k2 hy (by omega) hl (by omega) h2 (by omega)
  have s3 := runit_no bs (p + k0 + k1 + k2) (n - k0 - k1 - k2) hy (by omega) hl hf
  have hC := fun u => pcheck_is ⟨z, o, t, 0⟩ 0 u (if_pos (by unfold Px.may; dsimp only; omega))
  have sL := pleftT bs (p + k0 + k1 + k2) (n - k0 - k1 - k2)
  have sE := pendT bs (p + k0 + k1 + k2) (n - k0 - k1 - k2)
  have sP := rspoil bs (p + k0 + k1 + k2) (n - k0 - k1 - k2) true
  generalize hp3 : p + k0 + k1 + k2 = p3 at *
  generalize hn3 : n - k0 - k1 - k2 = n3 at *
  generalize hp2 : p + k0 + k1 = p2 at *
  generalize hn2 : n - k0 - k1 = n2 at *
  generalize hp1 : p + k0 = p1 at *
  generalize hn1 : n - k0 = n1 at *
  refine EW.ctEnter EW.sup1 Try.func92 rfl Try.ntmps92 rfl EW.nlP ?_; intro w0 tch ini R hR
  all_goals try (refine EW.nm ?_)
  all_goals try (refine EW.eReg (id := 0) ?_; refine EW.eAlloc ?_; refine EW.eEnd ?_; (try refine EW.nm ?_))
  all_goals try (refine EW.eReg (id := 1) ?_; refine EW.eMove ?_; (first | refine EW.eCallN [0, 1] Try.call70 (s0) ?_ | refine EW.eCallN [0, 1] Try.call70 (s1) ?_ | refine EW.eCallN [0, 1] Try.call70 (s2) ?_); refine EW.eConv ?_; refine EW.eBuild (place := fun i => [(0, 1), (1, 1), (2, 1), (3, 1)][i]?) ?_; refine EW.eAlloc ?_; (first | refine EW.eStoreW (k := 4) ?_ | refine EW.eStore (k := 4) ?_); refine EW.eEnd ?_; (try refine EW.nm ?_))
  all_goals try (refine EW.eReg (id := 2) ?_; refine EW.eAssign ?_; refine EW.eEnd ?_; (try refine EW.nm ?_))
  all_goals try (refine EW.eReg (id := 3) ?_; refine EW.eFieldAddr (k := 1) ?_; refine EW.eLoad1 ?_; refine EW.eNeq ?_; refine EW.eEnd ?_; (try refine EW.nm ?_))
  all_goals try (first | refine EW.eYes (x := .tmp 11) ?_ | refine EW.eNo (x := .tmp 11) ?_ | (refine EW.eCond (x := .tmp 11) ?_ ?_ <;> (intro hb hb'; (try dsimp only at hb'); (try (exfalso; first | omega | with_reducible exact absurd rfl hb')))))
  all_goals try (refine EW.nm ?_)
  all_goals try (refine EW.eReg (id := 4) ?_; refine EW.eMove ?_; (first | refine EW.eCallN [0, 1] Try.call70 (s0) ?_ | refine EW.eCallN [0, 1] Try.call70 (s1) ?_ | refine EW.eCallN [0, 1] Try.call70 (s2) ?_); refine EW.eMove ?_; (first | refine EW.eCallN [0, 1] Try.call70 (s0) ?_ | refine EW.eCallN [0, 1] Try.call70 (s1) ?_ | refine EW.eCallN [0, 1] Try.call70 (s2) ?_); refine EW.eMove ?_; refine EW.eCallN [0, 1] Try.call102 (s3) ?_; refine EW.eFieldAddr (k := 1) ?_; (first | refine EW.eStoreW (k := 1) ?_ | refine EW.eStore (k := 1) ?_); refine EW.eFieldAddr (k := 1) ?_; (first | refine EW.eStoreW (k := 1) ?_ | refine EW.eStore (k := 1) ?_); refine EW.eAssign ?_; refine EW.eEnd ?_; (try refine EW.nm ?_))
  all_goals try (refine EW.eReg (id := 5) ?_; refine EW.eMove ?_; refine EW.eGtr ?_; refine EW.eMove ?_)
  all_goals try (refine EW.eGuard (j := 2) (o := ⟨some 23, _, _, _, _, _⟩) ?_ ?_ <;> (intro hb hb'; (try dsimp only at hb'); (try (exfalso; first | omega | with_reducible exact absurd rfl hb'))))
  all_goals try ((first | refine EW.eSkipF (j := 2) ?_ | refine EW.eSkipU (j := 2) ?_ | refine EW.eLoadA (k := 4) ?_); (first | refine EW.eSkipF (j := 2) ?_ | refine EW.eSkipU (j := 2) ?_ | refine EW.eCall Try.call62 (fun w => hC w) ?_); (first | refine EW.eSkipF (j := 2) ?_ | refine EW.eSkipU (j := 2) ?_ | refine EW.eNeq ?_); (first | refine EW.ePickT ?_ | refine EW.ePickF ?_); refine EW.eEnd ?_; (try refine EW.nm ?_))
  all_goals try (first | refine EW.eYes (x := .tmp 26) ?_ | refine EW.eNo (x := .tmp 26) ?_ | (refine EW.eCond (x := .tmp 26) ?_ ?_ <;> (intro hb hb'; (try dsimp only at hb'); (try (exfalso; first | omega | with_reducible exact absurd rfl hb')))))
  all_goals try (refine EW.nm ?_)
  all_goals try (refine EW.eReg (id := 6) ?_; refine EW.eMove ?_; refine EW.eCallN [0, 1] Try.call72 (sP) ?_; refine EW.eEnd ?_; (try refine EW.nm ?_))
  all_goals try (refine EW.eReg (id := 7) ?_; refine EW.eMove ?_; refine EW.eConv ?_; refine EW.eFieldAddr (k := 1) ?_; (first | refine EW.eStoreW (k := 1) ?_ | refine EW.eStore (k := 1) ?_); refine EW.eEnd ?_; (try refine EW.nm ?_))
  all_goals try (refine EW.eReg (id := 8) ?_; refine EW.eMove ?_; refine EW.eCallN [0, 1] Try.call89 (sL) ?_; refine EW.eEql ?_; refine EW.eMove ?_)
  all_goals try (refine EW.eGuard (j := 3) (o := ⟨some 36, _, _, _, _, _⟩) ?_ ?_ <;> (intro hb hb'; (try dsimp only at hb'); (try (exfalso; first | omega | with_reducible exact absurd rfl hb'))))
  all_goals try ((first | refine EW.eSkipT (j := 3) ?_ | refine EW.eSkipU (j := 3) ?_ | refine EW.eMove ?_); (first | refine EW.eSkipT (j := 3) ?_ | refine EW.eSkipU (j := 3) ?_ | refine EW.eCallN [0, 1] Try.call45 (sE) ?_); (first | refine EW.eSkipT (j := 3) ?_ | refine EW.eSkipU (j := 3) ?_ | refine EW.eNeq ?_); (first | refine EW.ePickT ?_ | refine EW.ePickF ?_); refine EW.eEnd ?_; (try refine EW.nm ?_))
  all_goals try (first | refine EW.eYes (x := .tmp 39) ?_ | refine EW.eNo (x := .tmp 39) ?_ | (refine EW.eCond (x := .tmp 39) ?_ ?_ <;> (intro hb hb'; (try dsimp only at hb'); (try (exfalso; first | omega | with_reducible exact absurd rfl hb')))))
  all_goals try (refine EW.nm ?_)
  all_goals try (refine EW.eReg (id := 9) ?_; refine EW.eBuild (place := fun i => [(0, 1), (1, 1), (2, 1), (3, 1)][i]?) ?_; (first | refine EW.eStoreW (k := 4) ?_ | refine EW.eStore (k := 4) ?_); refine EW.eEnd ?_; (try refine EW.nm ?_))
  all_goals try (with_reducible refine EW.parkK ?_)
  all_goals try (refine EW.eReg (id := 10) ?_; refine EW.eLoadA (k := 4) ?_; (first | refine EW.eStoreW (k := 4) ?_ | refine EW.eStore (k := 4) ?_); refine EW.eEnd ?_; (try refine EW.nm ?_))
  all_goals try (with_reducible refine EW.parkK ?_)
  all_goals try (refine EW.Park.mk ?_)
  all_goals (refine EW.eLeaveN [] hR EW.orP (by rfl) (by rfl) ?_ ?_ rfl rfl EW.nlP rfl rfl; rotate_left 1; (· ((repeat (first | exact EW.atE.nil | refine EW.atE.lt rfl ?_ | refine EW.atE.lf ?_ | refine EW.atE.b rfl EW.SameB.refl ?_ | (refine EW.atE.b rfl ?_ ?_; rotate_left 1))))))
  all_goals rfl
theorem ptake_3b (bs : List Int) (p n z k0 o k1 t k2 : Nat) (hy : By bs) (hn : p + n = bs.length) (hl : bs.length ≤ 1000000) (h0 : num (bs.drop p) = some (z, k0)) (e1 : k0 ≤ n) (h1 : num (bs.drop (p + k0)) = some (o, k1)) (e2 : k0 + k1 ≤ n) (h2 : num (bs.drop (p + k0 + k1)) = some (t, k2)) (e3 : k0 + k1 + k2 ≤ n) (hz : z < 16777216) (ho : o ≤ 65535) (ht : t ≤ 63) (hf : num (bs.drop (p + k0 + k1 + k2)) = none) (o1 : o = 0) : CT Try.prog 92 [.c (.p 0 0)] (upd EW.emp (WR bs p n false)) 2 2 (.a (pcl 0 0 0 0)) (upd (upd EW.emp (WR bs p n false)) [(.b 0, .b (.m true (rcs (p + k0 + k1 + k2) (n - k0 - k1 - k2) true)))]) := by
  have s0 := rsmall_ok bs p n 16777216 z k0 hy (by omega) hl (by omega) h0 (by omega)
  have s1 := rsmall_ok bs (p + k0) (n - k0) 65535 o k1 hy (by omega) hl (by omega) h1 (by omega)
  have s2 := rsmall_ok bs (p + k0 + k1) (n - k0 - k1) 63 t k2 hy (by omega) hl (by omega) h2 (by omega)
  have s3 := runit_no bs (p + k0 + k1 + k2) (n - k0 - k1 - k2) hy (by omega) hl hf
  have hC := fun u => pcheck_is ⟨z, o, t, 0⟩ 130 u (if_neg (by unfold Px.may; dsimp only; omega))
  have sL := pleftT bs (p + k0 + k1 + k2) (n - k0 - k1 - k2)
  have sE := pendT bs (p + k0 + k1 + k2) (n - k0 - k1 - k2)
  have sP := rspoil bs (p + k0 + k1 + k2) (n - k0 - k1 - k2) true
  generalize hp3 : p + k0 + k1 + k2 = p3 at *
  generalize hn3 : n - k0 - k1 - k2 = n3 at *
  generalize hp2 : p + k0 + k1 = p2 at *
  generalize hn2 : n - k0 - k1 = n2 at *
  generalize hp1 : p + k0 = p1 at *
  generalize hn1 : n - k0 = n1 at *
  refine EW.ctEnter EW.sup1 Try.func92 rfl Try.ntmps92 rfl EW.nlP ?_; intro w0 tch ini R hR
  all_goals try (refine EW.nm ?_)
  all_goals try (refine EW.eReg (id := 0) ?_; refine EW.eAlloc ?_; refine EW.eEnd ?_; (try refine EW.nm ?_))
  all_goals try (refine EW.eReg (id := 1) ?_; refine EW.eMove ?_; (first | refine EW.eCallN [0, 1] Try.call70 (s0) ?_ | refine EW.eCallN [0, 1] Try.call70 (s1) ?_ | refine EW.eCallN [0, 1] Try.call70 (s2) ?_); refine EW.eConv ?_; refine EW.eBuild (place := fun i => [(0, 1), (1, 1), (2, 1), (3, 1)][i]?) ?_; refine EW.eAlloc ?_; (first | refine EW.eStoreW (k := 4) ?_ | refine EW.eStore (k := 4) ?_); refine EW.eEnd ?_; (try refine EW.nm ?_))
  all_goals try (refine EW.eReg (id := 2) ?_; refine EW.eAssign ?_; refine EW.eEnd ?_; (try refine EW.nm ?_))
  all_goals try (refine EW.eReg (id := 3) ?_; refine EW.eFieldAddr (k := 1) ?_; refine EW.eLoad1 ?_; refine EW.eNeq ?_; refine EW.eEnd ?_; (try refine EW.nm ?_))
  all_goals try (first | refine EW.eYes (x := .tmp 11) ?_ | refine EW.eNo (x := .tmp 11) ?_ | (refine EW.eCond (x := .tmp 11) ?_ ?_ <;> (intro hb hb'; (try dsimp only at hb'); (try (exfalso; first | omega | with_reducible exact absurd rfl hb')))))
  all_goals try (refine EW.nm ?_)
  all_goals try (refine EW.eReg (id := 4) ?_; refine EW.eMove ?_; (first | refine EW.eCallN [0, 1] Try.call70 (s0) ?_ | refine EW.eCallN [0, 1] Try.call70 (s1) ?_ | refine EW.eCallN [0, 1] Try.call70 (s2) ?_); refine EW.eMove ?_; (first | refine EW.eCallN [0, 1] Try.call70 (s0) ?_ | refine EW.eCallN [0, 1] Try.call70 (s1) ?_ | refine EW.eCallN [0, 1] Try.call70 (s2) ?_); refine EW.eMove ?_; refine EW.eCallN [0, 1] Try.call102 (s3) ?_; refine EW.eFieldAddr (k := 1) ?_; (first | refine EW.eStoreW (k := 1) ?_ | refine EW.eStore (k := 1) ?_); refine EW.eFieldAddr (k := 1) ?_; (first | refine EW.eStoreW (k := 1) ?_ | refine EW.eStore (k := 1) ?_); refine EW.eAssign ?_; refine EW.eEnd ?_; (try refine EW.nm ?_))
  all_goals try (refine EW.eReg (id := 5) ?_; refine EW.eMove ?_; refine EW.eGtr ?_; refine EW.eMove ?_)
  all_goals try (refine EW.eGuard (j := 2) (o := ⟨some 23, _, _, _, _, _⟩) ?_ ?_ <;> (intro hb hb'; (try dsimp only at hb'); (try (exfalso; first | omega | with_reducible exact absurd rfl hb'))))
  all_goals try ((first | refine EW.eSkipF (j := 2) ?_ | refine EW.eSkipU (j := 2) ?_ | refine EW.eLoadA (k := 4) ?_); (first | refine EW.eSkipF (j := 2) ?_ | refine EW.eSkipU (j := 2) ?_ | refine EW.eCall Try.call62 (fun w => hC w) ?_); (first | refine EW.eSkipF (j := 2) ?_ | refine EW.eSkipU (j := 2) ?_ | refine EW.eNeq ?_); (first | refine EW.ePickT ?_ | refine EW.ePickF ?_); refine EW.eEnd ?_; (try refine EW.nm ?_))
  all_goals try (first | refine EW.eYes (x := .tmp 26) ?_ | refine EW.eNo (x := .tmp 26) ?_ | (refine EW.eCond (x := .tmp 26) ?_ ?_ <;> (intro hb hb'; (try dsimp only at hb'); (try (exfalso; first | omega | with_reducible exact absurd rfl hb')))))
  all_goals try (refine EW.nm ?_)
  all_goals try (refine EW.eReg (id := 6) ?_; refine EW.eMove ?_; refine EW.eCallN [0, 1] Try.call72 (sP) ?_; refine EW.eEnd ?_; (try refine EW.nm ?_))
  all_goals try (refine EW.eReg (id := 7) ?_; refine EW.eMove ?_; refine EW.eConv ?_; refine EW.eFieldAddr (k := 1) ?_; (first | refine EW.eStoreW (k := 1) ?_ | refine EW.eStore (k := 1) ?_); refine EW.eEnd ?_; (try refine EW.nm ?_))
  all_goals try (refine EW.eReg (id := 8) ?_; refine EW.eMove ?_; refine EW.eCallN [0, 1] Try.call89 (sL) ?_; refine EW.eEql ?_; refine EW.eMove ?_)
  all_goals try (refine EW.eGuard (j := 3) (o := ⟨some 36, _, _, _, _, _⟩) ?_ ?_ <;> (intro hb hb'; (try dsimp only at hb'); (try (exfalso; first | omega | with_reducible exact absurd rfl hb'))))
  all_goals try ((first | refine EW.eSkipT (j := 3) ?_ | refine EW.eSkipU (j := 3) ?_ | refine EW.eMove ?_); (first | refine EW.eSkipT (j := 3) ?_ | refine EW.eSkipU (j := 3) ?_ | refine EW.eCallN [0, 1] Try.call45 (sE) ?_); (first | refine EW.eSkipT (j := 3) ?_ | refine EW.eSkipU (j := 3) ?_ | refine EW.eNeq ?_); (first | refine EW.ePickT ?_ | refine EW.ePickF ?_); refine EW.eEnd ?_; (try refine EW.nm ?_))
  all_goals try (first | refine EW.eYes (x := .tmp 39) ?_ | refine EW.eNo (x := .tmp 39) ?_ | (refine EW.eCond (x := .tmp 39) ?_ ?_ <;> (intro hb hb'; (try dsimp only at hb'); (try (exfalso; first | omega | with_reducible exact absurd rfl hb')))))
  all_goals try (refine EW.nm ?_)
  all_goals try (refine EW.eReg (id := 9) ?_; refine EW.eBuild (place := fun i => [(0, 1), (1, 1), (2, 1), (3, 1)][i]?) ?_; (first | refine EW.eStoreW (k := 4) ?_ | refine EW.eStore (k := 4) ?_); refine EW.eEnd ?_; (try refine EW.nm ?_))
  all_goals try (with_reducible refine EW.parkK ?_)
  all_goals try (refine EW.eReg (id := 10) ?_; refine EW.eLoadA (k := 4) ?_; (first | refine EW.eStoreW (k := 4) ?_ | refine EW.eStore (k := 4) ?_); refine EW.eEnd ?_; (try refine EW.nm ?_))
  all_goals try (with_reducible refine EW.parkK ?_)
  all_goals try (refine EW.Park.mk ?_)
  all_goals (refine EW.eLeaveN [] hR EW.orP (by rfl) (by rfl) ?_ ?_ rfl rfl EW.nlP rfl rfl; rotate_left 1; (· ((repeat (first | exact EW.atE.nil | refine EW.atE.lt rfl ?_ | refine EW.atE.lf ?_ | refine EW.atE.b rfl EW.SameB.refl ?_ | (refine EW.atE.b rfl ?_ ?_; rotate_left 1))))))
  all_goals rfl
theorem ptake_4a (bs : List Int) (p n z k0 o k1 t k2 c k3 : Nat) (hy : By bs) (hn : p + n = bs.length) (hl : bs.length ≤ 1000000) (h0 : num (bs.drop p) = some (z, k0)) (e1 : k0 ≤ n) (h1 : num (bs.drop (p + k0)) = some (o, k1)) (e2 : k0 + k1 ≤ n) (h2 : num (bs.drop (p + k0 + k1)) = some (t, k2)) (e3 : k0 + k1 + k2 ≤ n) (h3 : num (bs.drop (p + k0 + k1 + k2)) = some (c, k3)) (e4 : k0 + k1 + k2 + k3 ≤ n) (hz : z < 16777216) (ho : o ≤ 65535) (ht : t ≤ 63) (o1 : o = 0) (hc : c ≤ 4294967295) : CT Try.prog 92 [.c (.p 0 0)] (upd EW.emp (WR bs p n false)) 2 2 (.a (pcl 0 0 0 0)) (upd (upd EW.emp (WR bs p n false)) [(.b 0, .b (.m true (rcs (p + k0 + k1 + k2 + k3) (n - k0 - k1 - k2 - k3) true)))]) := by
  have s0 := rsmall_ok bs p n 16777216 z k0 hy (by omega) hl (by omega) h0 (by omega)
  have s1 := rsmall_ok bs (p + k0) (n - k0) 65535 o k1 hy (by omega) hl (by omega) h1 (by omega)
  have s2 := rsmall_ok bs (p + k0 + k1) (n - k0 - k1) 63 t k2 hy (by omega) hl (by omega) h2 (by omega)
  have s3 := runit_ok bs (p + k0 + k1 + k2) (n - k0 - k1 - k2) c k3 hy (by omega) hl h3
  have hC := fun u => pcheck_is ⟨z, o, t, 0⟩ 130 u (if_neg (by unfold Px.may; dsimp only; omega))
  have sL := pleftT bs (p + k0 + k1 + k2 + k3) (n - k0 - k1 - k2 - k3)
  have sE := pendT bs (p + k0 + k1 + k2 + k3) (n - k0 - k1 - k2 - k3)
  have sP := rspoil bs (p + k0 + k1 + k2 + k3) (n - k0 - k1 - k2 - k3) false
  generalize hp4 : p + k0 + k1 + k2 + k3 = p4 at *
  generalize hn4 : n - k0 - k1 - k2 - k3 = n4 at *
  generalize hp3 : p + k0 + k1 + k2 = p3 at *
  generalize hn3 : n - k0 - k1 - k2 = n3 at *
  generalize hp2 : p + k0 + k1 = p2 at *
  generalize hn2 : n - k0 - k1 = n2 at *
  generalize hp1 : p + k0 = p1 at *
  generalize hn1 : n - k0 = n1 at *
  refine EW.ctEnter EW.sup1 Try.func92 rfl Try.ntmps92 rfl EW.nlP ?_; intro w0 tch ini R hR
  all_goals try (refine EW.nm ?_)
  all_goals try (refine EW.eReg (id := 0) ?_; refine EW.eAlloc ?_; refine EW.eEnd ?_; (try refine EW.nm ?_))
  all_goals try (refine EW.eReg (id := 1) ?_; refine EW.eMove ?_; (first | refine EW.eCallN [0, 1] Try.call70 (s0) ?_ | refine EW.eCallN [0, 1] Try.call70 (s1) ?_ | refine EW.eCallN [0, 1] Try.call70 (s2) ?_); refine EW.eConv ?_; refine EW.eBuild (place := fun i => [(0, 1), (1, 1), (2, 1), (3, 1)][i]?) ?_; refine EW.eAlloc ?_; (first | refine EW.eStoreW (k := 4) ?_ | refine EW.eStore (k := 4) ?_); refine EW.eEnd ?_; (try refine EW.nm ?_))
  all_goals try (refine EW.eReg (id := 2) ?_; refine EW.eAssign ?_; refine EW.eEnd ?_; (try refine EW.nm ?_))
  all_goals try (refine EW.eReg (id := 3) ?_; refine EW.eFieldAddr (k := 1) ?_; refine EW.eLoad1 ?_; refine EW.eNeq ?_; refine EW.eEnd ?_; (try refine EW.nm ?_))
  all_goals try (first | refine EW.eYes (x := .tmp 11) ?_ | refine EW.eNo (x := .tmp 11) ?_ | (refine EW.eCond (x := .tmp 11) ?_ ?_ <;> (intro hb hb'; (try dsimp only at hb'); (try (exfalso; first | omega | with_reducible exact absurd rfl hb')))))
  all_goals try (refine EW.nm ?_)
  all_goals try (refine EW.eReg (id := 4) ?_; refine EW.eMove ?_; (first | refine EW.eCallN [0, 1] Try.call70 (s0) ?_ | refine EW.eCallN [0, 1] Try.call70 (s1) ?_ | refine EW.eCallN [0, 1] Try.call70 (s2) ?_); refine EW.eMove ?_; (first | refine EW.eCallN [0, 1] Try.call70 (s0) ?_ | refine EW.eCallN [0, 1] Try.call70 (s1) ?_ | refine EW.eCallN [0, 1] Try.call70 (s2) ?_); refine EW.eMove ?_; refine EW.eCallN [0, 1] Try.call102 (s3) ?_; refine EW.eFieldAddr (k := 1) ?_; (first | refine EW.eStoreW (k := 1) ?_ | refine EW.eStore (k := 1) ?_); refine EW.eFieldAddr (k := 1) ?_; (first | refine EW.eStoreW (k := 1) ?_ | refine EW.eStore (k := 1) ?_); refine EW.eAssign ?_; refine EW.eEnd ?_; (try refine EW.nm ?_))
  all_goals try (refine EW.eReg (id := 5) ?_; refine EW.eMove ?_; refine EW.eGtr ?_; refine EW.eMove ?_)
  all_goals try (refine EW.eGuard (j := 2) (o := ⟨some 23, _, _, _, _, _⟩) ?_ ?_ <;> (intro hb hb'; (try dsimp only at hb'); (try (exfalso; first | omega | with_reducible exact absurd rfl hb'))))
  all_goals try ((first | refine EW.eSkipF (j := 2) ?_ | refine EW.eSkipU (j := 2) ?_ | refine EW.eLoadA (k := 4) ?_); (first | refine EW.eSkipF (j := 2) ?_ | refine EW.eSkipU (j := 2) ?_ | refine EW.eCall Try.call62 (fun w => hC w) ?_); (first | refine EW.eSkipF (j := 2) ?_ | refine EW.eSkipU (j := 2) ?_ | refine EW.eNeq ?_); (first | refine EW.ePickT ?_ | refine EW.ePickF ?_); refine EW.eEnd ?_; (try refine EW.nm ?_))
  all_goals try (first | refine EW.eYes (x := .tmp 26) ?_ | refine EW.eNo (x := .tmp 26) ?_ | (refine EW.eCond (x := .tmp 26) ?_ ?_ <;> (intro hb hb'; (try dsimp only at hb'); (try (exfalso; first | omega | with_reducible exact absurd rfl hb')))))
  all_goals try (refine EW.nm ?_)
  all_goals try (refine EW.eReg (id := 6) ?_; refine EW.eMove ?_; refine EW.eCallN [0, 1] Try.call72 (sP) ?_; refine EW.eEnd ?_; (try refine EW.nm ?_))
  all_goals try (refine EW.eReg (id := 7) ?_; refine EW.eMove ?_; refine EW.eConv ?_; refine EW.eFieldAddr (k := 1) ?_; (first | refine EW.eStoreW (k := 1) ?_ | refine EW.eStore (k := 1) ?_); refine EW.eEnd ?_; (try refine EW.nm ?_))
  all_goals try (refine EW.eReg (id := 8) ?_; refine EW.eMove ?_; refine EW.eCallN [0, 1] Try.call89 (sL) ?_; refine EW.eEql ?_; refine EW.eMove ?_)
  all_goals try (refine EW.eGuard (j := 3) (o := ⟨some 36, _, _, _, _, _⟩) ?_ ?_ <;> (intro hb hb'; (try dsimp only at hb'); (try (exfalso; first | omega | with_reducible exact absurd rfl hb'))))
  all_goals try ((first | refine EW.eSkipT (j := 3) ?_ | refine EW.eSkipU (j := 3) ?_ | refine EW.eMove ?_); (first | refine EW.eSkipT (j := 3) ?_ | refine EW.eSkipU (j := 3) ?_ | refine EW.eCallN [0, 1] Try.call45 (sE) ?_); (first | refine EW.eSkipT (j := 3) ?_ | refine EW.eSkipU (j := 3) ?_ | refine EW.eNeq ?_); (first | refine EW.ePickT ?_ | refine EW.ePickF ?_); refine EW.eEnd ?_; (try refine EW.nm ?_))
  all_goals try (first | refine EW.eYes (x := .tmp 39) ?_ | refine EW.eNo (x := .tmp 39) ?_ | (refine EW.eCond (x := .tmp 39) ?_ ?_ <;> (intro hb hb'; (try dsimp only at hb'); (try (exfalso; first | omega | with_reducible exact absurd rfl hb')))))
  all_goals try (refine EW.nm ?_)
  all_goals try (refine EW.eReg (id := 9) ?_; refine EW.eBuild (place := fun i => [(0, 1), (1, 1), (2, 1), (3, 1)][i]?) ?_; (first | refine EW.eStoreW (k := 4) ?_ | refine EW.eStore (k := 4) ?_); refine EW.eEnd ?_; (try refine EW.nm ?_))
  all_goals try (with_reducible refine EW.parkK ?_)
  all_goals try (refine EW.eReg (id := 10) ?_; refine EW.eLoadA (k := 4) ?_; (first | refine EW.eStoreW (k := 4) ?_ | refine EW.eStore (k := 4) ?_); refine EW.eEnd ?_; (try refine EW.nm ?_))
  all_goals try (with_reducible refine EW.parkK ?_)
  all_goals try (refine EW.Park.mk ?_)
  all_goals (refine EW.eLeaveN [] hR EW.orP (by rfl) (by rfl) ?_ ?_ rfl rfl EW.nlP rfl rfl; rotate_left 1; (· ((repeat (first | exact EW.atE.nil | refine EW.atE.lt rfl ?_ | refine EW.atE.lf ?_ | refine EW.atE.b rfl EW.SameB.refl ?_ | (refine EW.atE.b rfl ?_ ?_; rotate_left 1))))))
  all_goals rfl
theorem ptake_4b (bs : List Int) (p n z k0 o k1 t k2 c k3 : Nat) (hy : By bs) (hn : p + n = bs.length) (hl : bs.length ≤ 1000000) (h0 : num (bs.drop p) = some (z, k0)) (e1 : k0 ≤ n) (h1 : num (bs.drop (p + k0)) = some (o, k1)) (e2 : k0 + k1 ≤ n) (h2 : num (bs.drop (p + k0 + k1)) = some (t, k2)) (e3 : k0 + k1 + k2 ≤ n) (h3 : num (bs.drop (p + k0 + k1 + k2)) = some (c, k3)) (e4 : k0 + k1 + k2 + k3 ≤ n) (hz : z < 16777216) (ho : o ≤ 65535) (ht : t ≤ 63) (hc : 4294967295 < c) : CT Try.prog 92 [.c (.p 0 0)] (upd EW.emp (WR bs p n false)) 2 2 (.a (pcl 0 0 0 0)) (upd (upd EW.emp (WR bs p n false)) [(.b 0, .b (.m true (rcs (p + k0 + k1 + k2 + k3) (n - k0 - k1 - k2 - k3) true)))]) := by
  have s0 := rsmall_ok bs p n 16777216 z k0 hy (by omega) hl (by omega) h0 (by omega)
  have s1 := rsmall_ok bs (p + k0) (n - k0) 65535 o k1 hy (by omega) hl (by omega) h1 (by omega)
  have s2 := rsmall_ok bs (p + k0 + k1) (n - k0 - k1) 63 t k2 hy (by omega) hl (by omega) h2 (by omega)
  have s3 := runit_ok bs (p + k0 + k1 + k2) (n - k0 - k1 - k2) c k3 hy (by omega) hl h3
  have hC : True := True.intro
  have sL := pleftT bs (p + k0 + k1 + k2 + k3) (n - k0 - k1 - k2 - k3)
  have sE := pendT bs (p + k0 + k1 + k2 + k3) (n - k0 - k1 - k2 - k3)
  have sP := rspoil bs (p + k0 + k1 + k2 + k3) (n - k0 - k1 - k2 - k3) false
  generalize hp4 : p + k0 + k1 + k2 + k3 = p4 at *
  generalize hn4 : n - k0 - k1 - k2 - k3 = n4 at *
  generalize hp3 : p + k0 + k1 + k2 = p3 at *
  generalize hn3 : n - k0 - k1 - k2 = n3 at *
  generalize hp2 : p + k0 + k1 = p2 at *
  generalize hn2 : n - k0 - k1 = n2 at *
  generalize hp1 : p + k0 = p1 at *
  generalize hn1 : n - k0 = n1 at *
  refine EW.ctEnter EW.sup1 Try.func92 rfl Try.ntmps92 rfl EW.nlP ?_; intro w0 tch ini R hR
  all_goals try (refine EW.nm ?_)
  all_goals try (refine EW.eReg (id := 0) ?_; refine EW.eAlloc ?_; refine EW.eEnd ?_; (try refine EW.nm ?_))
  all_goals try (refine EW.eReg (id := 1) ?_; refine EW.eMove ?_; (first | refine EW.eCallN [0, 1] Try.call70 (s0) ?_ | refine EW.eCallN [0, 1] Try.call70 (s1) ?_ | refine EW.eCallN [0, 1] Try.call70 (s2) ?_); refine EW.eConv ?_; refine EW.eBuild (place := fun i => [(0, 1), (1, 1), (2, 1), (3, 1)][i]?) ?_; refine EW.eAlloc ?_; (first | refine EW.eStoreW (k := 4) ?_ | refine EW.eStore (k := 4) ?_); refine EW.eEnd ?_; (try refine EW.nm ?_))
  all_goals try (refine EW.eReg (id := 2) ?_; refine EW.eAssign ?_; refine EW.eEnd ?_; (try refine EW.nm ?_))
  all_goals try (refine EW.eReg (id := 3) ?_; refine EW.eFieldAddr (k := 1) ?_; refine EW.eLoad1 ?_; refine EW.eNeq ?_; refine EW.eEnd ?_; (try refine EW.nm ?_))
  all_goals try (first | refine EW.eYes (x := .tmp 11) ?_ | refine EW.eNo (x := .tmp 11) ?_ | (refine EW.eCond (x := .tmp 11) ?_ ?_ <;> (intro hb hb'; (try dsimp only at hb'); (try (exfalso; first | omega | with_reducible exact absurd rfl hb')))))
  all_goals try (refine EW.nm ?_)
  all_goals try (refine EW.eReg (id := 4) ?_; refine EW.eMove ?_; (first | refine EW.eCallN [0, 1] Try.call70 (s0) ?_ | refine EW.eCallN [0, 1] Try.call70 (s1) ?_ | refine EW.eCallN [0, 1] Try.call70 (s2) ?_); refine EW.eMove ?_; (first | refine EW.eCallN [0, 1] Try.call70 (s0) ?_ | refine EW.eCallN [0, 1] Try.call70 (s1) ?_ | refine EW.eCallN [0, 1] Try.call70 (s2) ?_); refine EW.eMove ?_; refine EW.eCallN [0, 1] Try.call102 (s3) ?_; refine EW.eFieldAddr (k := 1) ?_; (first | refine EW.eStoreW (k := 1) ?_ | refine EW.eStore (k := 1) ?_); refine EW.eFieldAddr (k := 1) ?_; (first | refine EW.eStoreW (k := 1) ?_ | refine EW.eStore (k := 1) ?_); refine EW.eAssign ?_; refine EW.eEnd ?_; (try refine EW.nm ?_))
  all_goals try (refine EW.eReg (id := 5) ?_; refine EW.eMove ?_; refine EW.eGtr ?_; refine EW.eMove ?_)
  all_goals try (refine EW.eGuard (j := 2) (o := ⟨some 23, _, _, _, _, _⟩) ?_ ?_ <;> (intro hb hb'; (try dsimp only at hb'); (try (exfalso; first | omega | with_reducible exact absurd rfl hb'))))
  all_goals try ((first | refine EW.eSkipF (j := 2) ?_ | refine EW.eSkipU (j := 2) ?_ | refine EW.eLoadA (k := 4) ?_); (first | refine EW.eSkipF (j := 2) ?_ | refine EW.eSkipU (j := 2) ?_ | fail "no contract of mullion/pixel.Check"); (first | refine EW.eSkipF (j := 2) ?_ | refine EW.eSkipU (j := 2) ?_ | refine EW.eNeq ?_); (first | refine EW.ePickT ?_ | refine EW.ePickF ?_); refine EW.eEnd ?_; (try refine EW.nm ?_))
  all_goals try (first | refine EW.eYes (x := .tmp 26) ?_ | refine EW.eNo (x := .tmp 26) ?_ | (refine EW.eCond (x := .tmp 26) ?_ ?_ <;> (intro hb hb'; (try dsimp only at hb'); (try (exfalso; first | omega | with_reducible exact absurd rfl hb')))))
  all_goals try (refine EW.nm ?_)
  all_goals try (refine EW.eReg (id := 6) ?_; refine EW.eMove ?_; refine EW.eCallN [0, 1] Try.call72 (sP) ?_; refine EW.eEnd ?_; (try refine EW.nm ?_))
  all_goals try (refine EW.eReg (id := 7) ?_; refine EW.eMove ?_; refine EW.eConv ?_; refine EW.eFieldAddr (k := 1) ?_; (first | refine EW.eStoreW (k := 1) ?_ | refine EW.eStore (k := 1) ?_); refine EW.eEnd ?_; (try refine EW.nm ?_))
  all_goals try (refine EW.eReg (id := 8) ?_; refine EW.eMove ?_; refine EW.eCallN [0, 1] Try.call89 (sL) ?_; refine EW.eEql ?_; refine EW.eMove ?_)
  all_goals try (refine EW.eGuard (j := 3) (o := ⟨some 36, _, _, _, _, _⟩) ?_ ?_ <;> (intro hb hb'; (try dsimp only at hb'); (try (exfalso; first | omega | with_reducible exact absurd rfl hb'))))
  all_goals try ((first | refine EW.eSkipT (j := 3) ?_ | refine EW.eSkipU (j := 3) ?_ | refine EW.eMove ?_); (first | refine EW.eSkipT (j := 3) ?_ | refine EW.eSkipU (j := 3) ?_ | refine EW.eCallN [0, 1] Try.call45 (sE) ?_); (first | refine EW.eSkipT (j := 3) ?_ | refine EW.eSkipU (j := 3) ?_ | refine EW.eNeq ?_); (first | refine EW.ePickT ?_ | refine EW.ePickF ?_); refine EW.eEnd ?_; (try refine EW.nm ?_))
  all_goals try (first | refine EW.eYes (x := .tmp 39) ?_ | refine EW.eNo (x := .tmp 39) ?_ | (refine EW.eCond (x := .tmp 39) ?_ ?_ <;> (intro hb hb'; (try dsimp only at hb'); (try (exfalso; first | omega | with_reducible exact absurd rfl hb')))))
  all_goals try (refine EW.nm ?_)
  all_goals try (refine EW.eReg (id := 9) ?_; refine EW.eBuild (place := fun i => [(0, 1), (1, 1), (2, 1), (3, 1)][i]?) ?_; (first | refine EW.eStoreW (k := 4) ?_ | refine EW.eStore (k := 4) ?_); refine EW.eEnd ?_; (try refine EW.nm ?_))
  all_goals try (with_reducible refine EW.parkK ?_)
  all_goals try (refine EW.eReg (id := 10) ?_; refine EW.eLoadA (k := 4) ?_; (first | refine EW.eStoreW (k := 4) ?_ | refine EW.eStore (k := 4) ?_); refine EW.eEnd ?_; (try refine EW.nm ?_))
  all_goals try (with_reducible refine EW.parkK ?_)
  all_goals try (refine EW.Park.mk ?_)
  all_goals (refine EW.eLeaveN [] hR EW.orP (by rfl) (by rfl) ?_ ?_ rfl rfl EW.nlP rfl rfl; rotate_left 1; (· ((repeat (first | exact EW.atE.nil | refine EW.atE.lt rfl ?_ | refine EW.atE.lf ?_ | refine EW.atE.b rfl EW.SameB.refl ?_ | (refine EW.atE.b rfl ?_ ?_; rotate_left 1))))))
  all_goals rfl
end Go.Proofs.Ytnmkpekfkfckoaa
