/- pixel: forms of pixels; Write, the document's. -/
import Derived.Test.YtnmkpekfkfckoaaHPkJ
import Derived.Test.YtnmkpekfkfckoaaHPkW
import Derived.Test.YtnmkpekfkfckoaaHIm3
import Derived.Test.YtnmkpekfkfckoaaHRow5
namespace Go.Proofs.Ytnmkpekfkfckoaa
set_option linter.unusedSimpArgs false
set_option linter.unusedVariables false
open Go.RowKit EV
open SX (Wr Tv Qu Rm Sh Is conjP eqs_iff eqs_false)
open EW (PlL PlT PlV PlVs LfV Mm Bt Opn GV YT lpOf nums)
set_option maxRecDepth 20000
/-- A pixel's form. -/
def encP (p : Px) : List Int := if p.z = 16777216 then formN 16777216 else formN p.z.toNat ++ formN p.o.toNat ++ formN p.t.toNat ++ formN p.c.toNat
theorem encP_e : encP ⟨16777216, 0, 0, 0⟩ = formN 16777216 := rfl
theorem encP_n {z o t c : Nat} (h : z < 16777216) : encP ⟨z, o, t, c⟩ = formN z ++ formN o ++ formN t ++ formN c := by
  unfold encP; dsimp only; rw [if_neg (by omega)]; rfl
abbrev pcl (z o t c : Int) : List C := [.v (.int .u32 z), .v (.int .i64 o), .v (.int .i64 t), .v (.int .u32 c)]
theorem pwrite_e (bs : List Int) (hl : bs.length ≤ 400000) : CT Try.prog 35 [.c (.p 0 0), .a (pcl 16777216 0 0 0)] (upd EW.emp (WW bs false)) 2 3 (.c (.v (.int .i64 0))) (upd (upd EW.emp (WW bs false)) (Wmore (bs ++ formN 16777216))) := by
  have hC := fun u => pcheck_is ⟨16777216, 0, 0, 0⟩ 0 u (by decide)
  have hS := wsmall_ok 16777216 16777216 bs (by omega) (by omega) (by omega)
  refine EW.ctEnter EW.sup1 Try.func35 rfl Try.ntmps35 rfl EW.nlP ?_; intro w0 tch ini R hR
  all_goals try (refine EW.nm ?_)
  all_goals try (refine EW.eReg (id := 0) ?_; refine EW.eBox ?_; refine EW.eAssign ?_; refine EW.eEnd ?_; (try refine EW.nm ?_))
  all_goals try (refine EW.eReg (id := 1) ?_; refine EW.eLoadA (k := 4) ?_; refine EW.eCall Try.call62 (fun w => hC w) ?_; refine EW.eAssign ?_; refine EW.eEnd ?_; (try refine EW.nm ?_))
  all_goals try (refine EW.eReg (id := 2) ?_; refine EW.eMove ?_; refine EW.eNeq ?_; refine EW.eEnd ?_; (try refine EW.nm ?_))
  all_goals try (first | refine EW.eYes (x := .tmp 9) ?_ | refine EW.eNo (x := .tmp 9) ?_ | (refine EW.eCond (x := .tmp 9) ?_ ?_ <;> (intro hb hb'; (try dsimp only at hb'); (try (exfalso; first | omega | with_reducible exact absurd rfl hb')))))
  all_goals try (refine EW.nm ?_)
  all_goals try (refine EW.eReg (id := 3) ?_; refine EW.eMove ?_; refine EW.eAssign ?_; refine EW.eEnd ?_; (try refine EW.nm ?_))
  all_goals try (with_reducible refine EW.parkK ?_)
  all_goals try (refine EW.eReg (id := 4) ?_; refine EW.eMove ?_; (first | refine EW.eEqN ?_ | refine EW.eEqNN ?_); refine EW.eEnd ?_; (try refine EW.nm ?_))
  all_goals try (first | refine EW.eYes (x := .tmp 12) ?_ | refine EW.eNo (x := .tmp 12) ?_ | (refine EW.eCond (x := .tmp 12) ?_ ?_ <;> (intro hb hb'; (try dsimp only at hb'); (try (exfalso; first | omega | with_reducible exact absurd rfl hb')))))
  all_goals try (refine EW.nm ?_)
  all_goals try (refine EW.eReg (id := 5) ?_; refine EW.eAssign ?_; refine EW.eEnd ?_; (try refine EW.nm ?_))
  all_goals try (with_reducible refine EW.parkK ?_)
  all_goals try (refine EW.eReg (id := 6) ?_; refine EW.eMove ?_; refine EW.eFieldAddr (k := 1) ?_; refine EW.eLoad1 ?_; refine EW.eConv ?_; refine EW.eCallN [0, 1] Try.call33 (hS) ?_; refine EW.eEnd ?_; (try refine EW.nm ?_))
  all_goals try (refine EW.eReg (id := 7) ?_; refine EW.eFieldAddr (k := 1) ?_; refine EW.eLoad1 ?_; refine EW.eEql ?_; refine EW.eEnd ?_; (try refine EW.nm ?_))
  all_goals try (first | refine EW.eYes (x := .tmp 20) ?_ | refine EW.eNo (x := .tmp 20) ?_ | (refine EW.eCond (x := .tmp 20) ?_ ?_ <;> (intro hb hb'; (try dsimp only at hb'); (try (exfalso; first | omega | with_reducible exact absurd rfl hb')))))
  all_goals try (refine EW.nm ?_)
  all_goals try (refine EW.eReg (id := 8) ?_; refine EW.eAssign ?_; refine EW.eEnd ?_; (try refine EW.nm ?_))
  all_goals try (with_reducible refine EW.parkK ?_)
  all_goals try (refine EW.eReg (id := 9) ?_; refine EW.eMove ?_; refine EW.eFieldAddr (k := 1) ?_; refine EW.eLoad1 ?_; refine EW.eCallN [0, 1] Try.call33 (hS) ?_; refine EW.eEnd ?_; (try refine EW.nm ?_))
  all_goals try (refine EW.eReg (id := 10) ?_; refine EW.eMove ?_; refine EW.eFieldAddr (k := 1) ?_; refine EW.eLoad1 ?_; refine EW.eCallN [0, 1] Try.call33 (hS) ?_; refine EW.eEnd ?_; (try refine EW.nm ?_))
  all_goals try (refine EW.eReg (id := 11) ?_; refine EW.eMove ?_; refine EW.eFieldAddr (k := 1) ?_; refine EW.eLoad1 ?_; refine EW.eConv ?_; fail "no contract of (*mullion/pack.Writer).Uint"; refine EW.eEnd ?_; (try refine EW.nm ?_))
  all_goals try (refine EW.eReg (id := 12) ?_; refine EW.eAssign ?_; refine EW.eEnd ?_; (try refine EW.nm ?_))
  all_goals try (with_reducible refine EW.parkK ?_)
  all_goals try (refine EW.Park.mk ?_)
  all_goals (refine EW.eLeaveN [20] hR EW.orP (by rfl) (by rfl) ?_ ?_ rfl rfl EW.nlP rfl rfl; rotate_left 1; (· ((repeat (first | exact EW.atE.nil | refine EW.atE.lt rfl ?_ | refine EW.atE.lf ?_ | refine EW.atE.b rfl EW.SameB.refl ?_ | (refine EW.atE.b rfl ?_ ?_; rotate_left 1))))))
  all_goals rfl
theorem pwrite_n (z o t c : Nat) (bs : List Int) (hl : bs.length ≤ 400000) (hz : z < 16777216) (ho : 1 ≤ o ∧ o ≤ 65535) (ht : t < 64) (hc : c < 4294967296) : CT Try.prog 35 [.c (.p 0 0), .a (pcl z o t c)] (upd EW.emp (WW bs false)) 2 3 (.c (.v (.int .i64 0))) (upd (upd EW.emp (WW bs false)) (Wmore (bs ++ (formN z ++ formN o ++ formN t ++ formN c)))) := by
  have hC := fun u => pcheck_is ⟨z, o, t, c⟩ 0 u (if_pos (by unfold Px.may; dsimp only; omega))
  have l1 := formN_10 (n := z) (by omega)
  have l2 := formN_10 (n := o) (by omega)
  have l3 := formN_10 (n := t) (by omega)
  have e : bs ++ (formN z ++ formN o ++ formN t ++ formN c) = bs ++ formN z ++ formN o ++ formN t ++ formN c := by simp only [List.append_assoc]
  rw [e]
  clear e
  have k1 : (bs ++ formN z).length ≤ 400010 := by rw [List.length_append]; omega
  have k2 : (bs ++ formN z ++ formN o).length ≤ 400020 := by rw [List.length_append]; omega
  have k3 : (bs ++ formN z ++ formN o ++ formN t).length ≤ 400030 := by rw [List.length_append]; omega
  have hS1 := wsmall_ok z 16777216 bs (by omega) (by omega) (by omega)
  have hS2 := wsmall_ok o 65535 (bs ++ formN z) (by omega) (by omega) (by omega)
  have hS3 := wsmall_ok t 63 (bs ++ formN z ++ formN o) (by omega) (by omega) (by omega)
  have hU := wuint_ok c (bs ++ formN z ++ formN o ++ formN t) (by omega) (by omega)
  generalize bs ++ formN z ++ formN o ++ formN t ++ formN c = B4 at *
  generalize bs ++ formN z ++ formN o ++ formN t = B3 at *
  generalize bs ++ formN z ++ formN o = B2 at *
  generalize bs ++ formN z = B1 at *
  clear l1 l2 l3
  refine EW.ctEnter EW.sup1 Try.func35 rfl Try.ntmps35 rfl EW.nlP ?_; intro w0 tch ini R hR
  all_goals try (refine EW.nm ?_)
  all_goals try (refine EW.eReg (id := 0) ?_; refine EW.eBox ?_; refine EW.eAssign ?_; refine EW.eEnd ?_; (try refine EW.nm ?_))
  all_goals try (refine EW.eReg (id := 1) ?_; refine EW.eLoadA (k := 4) ?_; refine EW.eCall Try.call62 (fun w => hC w) ?_; refine EW.eAssign ?_; refine EW.eEnd ?_; (try refine EW.nm ?_))
  all_goals try (refine EW.eReg (id := 2) ?_; refine EW.eMove ?_; refine EW.eNeq ?_; refine EW.eEnd ?_; (try refine EW.nm ?_))
  all_goals try (first | refine EW.eYes (x := .tmp 9) ?_ | refine EW.eNo (x := .tmp 9) ?_ | (refine EW.eCond (x := .tmp 9) ?_ ?_ <;> (intro hb hb'; (try dsimp only at hb'); (try (exfalso; first | omega | with_reducible exact absurd rfl hb')))))
  all_goals try (refine EW.nm ?_)
  all_goals try (refine EW.eReg (id := 3) ?_; refine EW.eMove ?_; refine EW.eAssign ?_; refine EW.eEnd ?_; (try refine EW.nm ?_))
  all_goals try (with_reducible refine EW.parkK ?_)
  all_goals try (refine EW.eReg (id := 4) ?_; refine EW.eMove ?_; (first | refine EW.eEqN ?_ | refine EW.eEqNN ?_); refine EW.eEnd ?_; (try refine EW.nm ?_))
  all_goals try (first | refine EW.eYes (x := .tmp 12) ?_ | refine EW.eNo (x := .tmp 12) ?_ | (refine EW.eCond (x := .tmp 12) ?_ ?_ <;> (intro hb hb'; (try dsimp only at hb'); (try (exfalso; first | omega | with_reducible exact absurd rfl hb')))))
  all_goals try (refine EW.nm ?_)
  all_goals try (refine EW.eReg (id := 5) ?_; refine EW.eAssign ?_; refine EW.eEnd ?_; (try refine EW.nm ?_))
  all_goals try (with_reducible refine EW.parkK ?_)
  all_goals try (refine EW.eReg (id := 6) ?_; refine EW.eMove ?_; refine EW.eFieldAddr (k := 1) ?_; refine EW.eLoad1 ?_; refine EW.eConv ?_; (first | refine EW.eCallN [0, 1] Try.call33 (hS1) ?_ | refine EW.eCallN [0, 20] Try.call33 (hS2) ?_ | refine EW.eCallN [0, 30] Try.call33 (hS3) ?_); refine EW.eEnd ?_; (try refine EW.nm ?_))
  all_goals try (refine EW.eReg (id := 7) ?_; refine EW.eFieldAddr (k := 1) ?_; refine EW.eLoad1 ?_; refine EW.eEql ?_; refine EW.eEnd ?_; (try refine EW.nm ?_))
  all_goals try (first | refine EW.eYes (x := .tmp 20) ?_ | refine EW.eNo (x := .tmp 20) ?_ | (refine EW.eCond (x := .tmp 20) ?_ ?_ <;> (intro hb hb'; (try dsimp only at hb'); (try (exfalso; first | omega | with_reducible exact absurd rfl hb')))))
  all_goals try (refine EW.nm ?_)
  all_goals try (refine EW.eReg (id := 8) ?_; refine EW.eAssign ?_; refine EW.eEnd ?_; (try refine EW.nm ?_))
  all_goals try (with_reducible refine EW.parkK ?_)
  all_goals try (refine EW.eReg (id := 9) ?_; refine EW.eMove ?_; refine EW.eFieldAddr (k := 1) ?_; refine EW.eLoad1 ?_; (first | refine EW.eCallN [0, 1] Try.call33 (hS1) ?_ | refine EW.eCallN [0, 20] Try.call33 (hS2) ?_ | refine EW.eCallN [0, 30] Try.call33 (hS3) ?_); refine EW.eEnd ?_; (try refine EW.nm ?_))
  all_goals try (refine EW.eReg (id := 10) ?_; refine EW.eMove ?_; refine EW.eFieldAddr (k := 1) ?_; refine EW.eLoad1 ?_; (first | refine EW.eCallN [0, 1] Try.call33 (hS1) ?_ | refine EW.eCallN [0, 20] Try.call33 (hS2) ?_ | refine EW.eCallN [0, 30] Try.call33 (hS3) ?_); refine EW.eEnd ?_; (try refine EW.nm ?_))
  all_goals try (refine EW.eReg (id := 11) ?_; refine EW.eMove ?_; refine EW.eFieldAddr (k := 1) ?_; refine EW.eLoad1 ?_; refine EW.eConv ?_; refine EW.eCallN [0, 40] Try.call57 (hU) ?_; refine EW.eEnd ?_; (try refine EW.nm ?_))
  all_goals try (refine EW.eReg (id := 12) ?_; refine EW.eAssign ?_; refine EW.eEnd ?_; (try refine EW.nm ?_))
  all_goals try (with_reducible refine EW.parkK ?_)
  all_goals try (refine EW.Park.mk ?_)
  all_goals (refine EW.eLeaveN [50] hR EW.orP (by rfl) (by rfl) ?_ ?_ rfl rfl EW.nlP rfl rfl; rotate_left 1; (· ((repeat (first | exact EW.atE.nil | refine EW.atE.lt rfl ?_ | refine EW.atE.lf ?_ | refine EW.atE.b rfl EW.SameB.refl ?_ | (refine EW.atE.b rfl ?_ ?_; rotate_left 1))))))
  all_goals rfl
theorem dwrite_e (bs : List Int) (hl : bs.length ≤ 300000) : CT Try.prog 40 [.c (.p 0 0), .a (pcl 16777216 0 0 0)] (upd EW.emp (WV bs false)) 2 3 (.c (.v (.int .i64 0))) (upd (upd EW.emp (WV bs false)) (Vmore (bs ++ formN 16777216))) := by
  have hC := fun u => rmay_is ⟨16777216, 0, 0, 0⟩ true u (by decide)
  have hS := vsmall_ok 16777216 16777216 bs (by omega) (by omega) (by omega)
  refine EW.ctEnter EW.sup1 Try.func40 rfl Try.ntmps40 rfl EW.nlP ?_; intro w0 tch ini R hR
  all_goals try (refine EW.nm ?_)
  all_goals try (refine EW.eReg (id := 0) ?_; refine EW.eBox ?_; refine EW.eAssign ?_; refine EW.eEnd ?_; (try refine EW.nm ?_))
  all_goals try (refine EW.eReg (id := 1) ?_; refine EW.eLoadA (k := 4) ?_; refine EW.eCall Try.call63 (fun w => hC w) ?_; refine EW.eAssign ?_; refine EW.eEnd ?_; (try refine EW.nm ?_))
  all_goals try (refine EW.eReg (id := 2) ?_; refine EW.eMove ?_; refine EW.eNot ?_; refine EW.eEnd ?_; (try refine EW.nm ?_))
  all_goals try (first | refine EW.eYes (x := .tmp 9) ?_ | refine EW.eNo (x := .tmp 9) ?_ | (refine EW.eCond (x := .tmp 9) ?_ ?_ <;> (intro hb hb'; (try dsimp only at hb'); (try (exfalso; first | omega | with_reducible exact absurd rfl hb')))))
  all_goals try (refine EW.nm ?_)
  all_goals try (refine EW.eReg (id := 3) ?_; refine EW.eAssign ?_; refine EW.eEnd ?_; (try refine EW.nm ?_))
  all_goals try (with_reducible refine EW.parkK ?_)
  all_goals try (refine EW.eReg (id := 4) ?_; refine EW.eMove ?_; refine EW.eFieldAddr (k := 1) ?_; refine EW.eLoad1 ?_; refine EW.eConv ?_; refine EW.eCallN [0, 1] Try.call38 (hS) ?_; refine EW.eEnd ?_; (try refine EW.nm ?_))
  all_goals try (refine EW.eReg (id := 5) ?_; refine EW.eFieldAddr (k := 1) ?_; refine EW.eLoad1 ?_; refine EW.eLss ?_; refine EW.eEnd ?_; (try refine EW.nm ?_))
  all_goals try (first | refine EW.eYes (x := .tmp 17) ?_ | refine EW.eNo (x := .tmp 17) ?_ | (refine EW.eCond (x := .tmp 17) ?_ ?_ <;> (intro hb hb'; (try dsimp only at hb'); (try (exfalso; first | omega | with_reducible exact absurd rfl hb')))))
  all_goals try (refine EW.nm ?_)
  all_goals try (refine EW.eReg (id := 6) ?_; refine EW.eMove ?_; refine EW.eFieldAddr (k := 1) ?_; refine EW.eLoad1 ?_; refine EW.eCallN [0, 1] Try.call38 (hS) ?_; refine EW.eEnd ?_; (try refine EW.nm ?_))
  all_goals try (refine EW.eReg (id := 7) ?_; refine EW.eMove ?_; refine EW.eFieldAddr (k := 1) ?_; refine EW.eLoad1 ?_; refine EW.eCallN [0, 1] Try.call38 (hS) ?_; refine EW.eEnd ?_; (try refine EW.nm ?_))
  all_goals try (refine EW.eReg (id := 8) ?_; refine EW.eMove ?_; refine EW.eFieldAddr (k := 1) ?_; refine EW.eLoad1 ?_; refine EW.eConv ?_; fail "no contract of (*mullion/mullionref05.Writer).Uint"; refine EW.eEnd ?_; (try refine EW.nm ?_))
  all_goals try (refine EW.eReg (id := 9) ?_; refine EW.eAssign ?_; refine EW.eEnd ?_; (try refine EW.nm ?_))
  all_goals try (with_reducible refine EW.parkK ?_)
  all_goals try (refine EW.Park.mk ?_)
  all_goals (refine EW.eLeaveN [20] hR EW.orP (by rfl) (by rfl) ?_ ?_ rfl rfl EW.nlP rfl rfl; rotate_left 1; (· ((repeat (first | exact EW.atE.nil | refine EW.atE.lt rfl ?_ | refine EW.atE.lf ?_ | refine EW.atE.b rfl EW.SameB.refl ?_ | (refine EW.atE.b rfl ?_ ?_; rotate_left 1))))))
  all_goals rfl
theorem dwrite_n (z o t c : Nat) (bs : List Int) (hl : bs.length ≤ 300000) (hz : z < 16777216) (ho : 1 ≤ o ∧ o ≤ 65535) (ht : t < 64) (hc : c < 4294967296) : CT Try.prog 40 [.c (.p 0 0), .a (pcl z o t c)] (upd EW.emp (WV bs false)) 2 3 (.c (.v (.int .i64 0))) (upd (upd EW.emp (WV bs false)) (Vmore (bs ++ (formN z ++ formN o ++ formN t ++ formN c)))) := by
  have hC := fun u => rmay_is ⟨z, o, t, c⟩ true u (decide_eq_true (by unfold Px.may; dsimp only; omega))
  have l1 := formN_10 (n := z) (by omega)
  have l2 := formN_10 (n := o) (by omega)
  have l3 := formN_10 (n := t) (by omega)
  have e : bs ++ (formN z ++ formN o ++ formN t ++ formN c) = bs ++ formN z ++ formN o ++ formN t ++ formN c := by simp only [List.append_assoc]
  rw [e]
  clear e
  have k1 : (bs ++ formN z).length ≤ 300010 := by rw [List.length_append]; omega
  have k2 : (bs ++ formN z ++ formN o).length ≤ 300020 := by rw [List.length_append]; omega
  have k3 : (bs ++ formN z ++ formN o ++ formN t).length ≤ 300030 := by rw [List.length_append]; omega
  have hS1 := vsmall_ok z 16777216 bs (by omega) (by omega) (by omega)
  have hS2 := vsmall_ok o 65535 (bs ++ formN z) (by omega) (by omega) (by omega)
  have hS3 := vsmall_ok t 63 (bs ++ formN z ++ formN o) (by omega) (by omega) (by omega)
  have hU := vuint_ok c (bs ++ formN z ++ formN o ++ formN t) (by omega) (by omega)
  generalize bs ++ formN z ++ formN o ++ formN t ++ formN c = B4 at *
  generalize bs ++ formN z ++ formN o ++ formN t = B3 at *
  generalize bs ++ formN z ++ formN o = B2 at *
  generalize bs ++ formN z = B1 at *
  clear l1 l2 l3
  refine EW.ctEnter EW.sup1 Try.func40 rfl Try.ntmps40 rfl EW.nlP ?_; intro w0 tch ini R hR
  all_goals try (refine EW.nm ?_)
  all_goals try (refine EW.eReg (id := 0) ?_; refine EW.eBox ?_; refine EW.eAssign ?_; refine EW.eEnd ?_; (try refine EW.nm ?_))
  all_goals try (refine EW.eReg (id := 1) ?_; refine EW.eLoadA (k := 4) ?_; refine EW.eCall Try.call63 (fun w => hC w) ?_; refine EW.eAssign ?_; refine EW.eEnd ?_; (try refine EW.nm ?_))
  all_goals try (refine EW.eReg (id := 2) ?_; refine EW.eMove ?_; refine EW.eNot ?_; refine EW.eEnd ?_; (try refine EW.nm ?_))
  all_goals try (first | refine EW.eYes (x := .tmp 9) ?_ | refine EW.eNo (x := .tmp 9) ?_ | (refine EW.eCond (x := .tmp 9) ?_ ?_ <;> (intro hb hb'; (try dsimp only at hb'); (try (exfalso; first | omega | with_reducible exact absurd rfl hb')))))
  all_goals try (refine EW.nm ?_)
  all_goals try (refine EW.eReg (id := 3) ?_; refine EW.eAssign ?_; refine EW.eEnd ?_; (try refine EW.nm ?_))
  all_goals try (with_reducible refine EW.parkK ?_)
  all_goals try (refine EW.eReg (id := 4) ?_; refine EW.eMove ?_; refine EW.eFieldAddr (k := 1) ?_; refine EW.eLoad1 ?_; refine EW.eConv ?_; (first | refine EW.eCallN [0, 1] Try.call38 (hS1) ?_ | refine EW.eCallN [0, 20] Try.call38 (hS2) ?_ | refine EW.eCallN [0, 30] Try.call38 (hS3) ?_); refine EW.eEnd ?_; (try refine EW.nm ?_))
  all_goals try (refine EW.eReg (id := 5) ?_; refine EW.eFieldAddr (k := 1) ?_; refine EW.eLoad1 ?_; refine EW.eLss ?_; refine EW.eEnd ?_; (try refine EW.nm ?_))
  all_goals try (first | refine EW.eYes (x := .tmp 17) ?_ | refine EW.eNo (x := .tmp 17) ?_ | (refine EW.eCond (x := .tmp 17) ?_ ?_ <;> (intro hb hb'; (try dsimp only at hb'); (try (exfalso; first | omega | with_reducible exact absurd rfl hb')))))
  all_goals try (refine EW.nm ?_)
  all_goals try (refine EW.eReg (id := 6) ?_; refine EW.eMove ?_; refine EW.eFieldAddr (k := 1) ?_; refine EW.eLoad1 ?_; (first | refine EW.eCallN [0, 1] Try.call38 (hS1) ?_ | refine EW.eCallN [0, 20] Try.call38 (hS2) ?_ | refine EW.eCallN [0, 30] Try.call38 (hS3) ?_); refine EW.eEnd ?_; (try refine EW.nm ?_))
  all_goals try (refine EW.eReg (id := 7) ?_; refine EW.eMove ?_; refine EW.eFieldAddr (k := 1) ?_; refine EW.eLoad1 ?_; (first | refine EW.eCallN [0, 1] Try.call38 (hS1) ?_ | refine EW.eCallN [0, 20] Try.call38 (hS2) ?_ | refine EW.eCallN [0, 30] Try.call38 (hS3) ?_); refine EW.eEnd ?_; (try refine EW.nm ?_))
  all_goals try (refine EW.eReg (id := 8) ?_; refine EW.eMove ?_; refine EW.eFieldAddr (k := 1) ?_; refine EW.eLoad1 ?_; refine EW.eConv ?_; refine EW.eCallN [0, 40] Try.call66 (hU) ?_; refine EW.eEnd ?_; (try refine EW.nm ?_))
  all_goals try (refine EW.eReg (id := 9) ?_; refine EW.eAssign ?_; refine EW.eEnd ?_; (try refine EW.nm ?_))
  all_goals try (with_reducible refine EW.parkK ?_)
  all_goals try (refine EW.Park.mk ?_)
  all_goals (refine EW.eLeaveN [50] hR EW.orP (by rfl) (by rfl) ?_ ?_ rfl rfl EW.nlP rfl rfl; rotate_left 1; (· ((repeat (first | exact EW.atE.nil | refine EW.atE.lt rfl ?_ | refine EW.atE.lf ?_ | refine EW.atE.b rfl EW.SameB.refl ?_ | (refine EW.atE.b rfl ?_ ?_; rotate_left 1))))))
  all_goals rfl
end Go.Proofs.Ytnmkpekfkfckoaa
