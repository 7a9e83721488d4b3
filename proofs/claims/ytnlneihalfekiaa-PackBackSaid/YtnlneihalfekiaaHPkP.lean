/- PackBack: the reader at what was written. -/
import Derived.Test.YtnlneihalfekiaaHPkN
import Derived.Test.YtnlneihalfekiaaHPkH
namespace Go.Proofs.Ytnlneihalfekiaa
set_option linter.unusedSimpArgs false
set_option linter.unusedVariables false
open Go.RowKit EV
open SX (Wr Tv Qu Rm Sh Is conjP eqs_iff eqs_false)
open EW (PlL PlT PlV PlVs LfV Mm Bt Opn GV YT lpOf nums)
set_option maxRecDepth 20000
section
variable {l : List Ob} {j p : Nat} (h : j < l.length) (hp : p = (encK l j).length)
include h hp
theorem rd0 (hk : (l.getD j Ob.zero).k = 0) (hu : (l.getD j Ob.zero).u < 18446744073709551616) : num ((encK l l.length).drop p) = some ((l.getD j Ob.zero).u, (formN (l.getD j Ob.zero).u).length) := by
  obtain ⟨t, ht⟩ := encK_drop l j h
  rw [hp, ht, enc, if_pos hk]; exact num_form _ _ hu
theorem rd1 (hk : (l.getD j Ob.zero).k = 1) (hu : fold (l.getD j Ob.zero).i < 18446744073709551616) : num ((encK l l.length).drop p) = some (fold (l.getD j Ob.zero).i, (formN (fold (l.getD j Ob.zero).i)).length) := by
  obtain ⟨t, ht⟩ := encK_drop l j h
  rw [hp, ht, enc, if_neg (by omega), if_pos hk]; exact num_form _ _ hu
theorem rd2 (hk : (l.getD j Ob.zero).k = 2) : num ((encK l l.length).drop p) = some (low16 (l.getD j Ob.zero).n, (formN (low16 (l.getD j Ob.zero).n)).length) := by
  obtain ⟨t, ht⟩ := encK_drop l j h
  rw [hp, ht, enc, if_neg (by omega), if_neg (by omega), if_pos hk]; exact num_form _ _ (by unfold low16; omega)
theorem rd3 (hk : (l.getD j Ob.zero).k = 3) : num ((encK l l.length).drop p) = some (bN (l.getD j Ob.zero).f, (formN (bN (l.getD j Ob.zero).f)).length) := by
  obtain ⟨t, ht⟩ := encK_drop l j h
  rw [hp, ht, enc, if_neg (by omega), if_neg (by omega), if_neg (by omega), if_pos hk]; exact num_form _ _ (by unfold bN; split <;> omega)
theorem rd4 (hk : (l.getD j Ob.zero).k = 4) (hb : (l.getD j Ob.zero).bs.length ≤ 300) : num ((encK l l.length).drop p) = some ((l.getD j Ob.zero).bs.length, (formN (l.getD j Ob.zero).bs.length).length) ∧ ((encK l l.length).drop (p + (formN (l.getD j Ob.zero).bs.length).length)).take (l.getD j Ob.zero).bs.length = (l.getD j Ob.zero).bs := by
  obtain ⟨t, ht⟩ := encK_drop l j h
  have he : (encK l l.length).drop p = formN (l.getD j Ob.zero).bs.length ++ ((l.getD j Ob.zero).bs ++ t) := by
    rw [hp, ht, enc, if_neg (by omega), if_neg (by omega), if_neg (by omega), if_neg (by omega), if_pos hk, List.append_assoc]
  refine ⟨by rw [he]; exact num_form _ _ (by omega), ?_⟩
  rw [← List.drop_drop, he, List.drop_left' rfl, List.take_left' rfl]
end
theorem encK_mono (l : List Ob) : ∀ d j, j + d ≤ l.length → (encK l j).length ≤ (encK l (j + d)).length
  | 0, _, _ => Nat.le_refl _
  | d + 1, j, h => by
    rw [show j + (d + 1) = (j + d) + 1 by omega, encK_succ l (j + d) (by omega), List.length_append]
    have := encK_mono l d j (by omega)
    omega
theorem encK_all (l : List Ob) (j : Nat) (h : j ≤ l.length) : (encK l j).length ≤ (encK l l.length).length := by
  have := encK_mono l (l.length - j) j (by omega)
  rwa [show j + (l.length - j) = l.length by omega] at this
theorem rint_b (bs : List Int) (p n k : Nat) (i : Int) (hy : By bs) (hn : p + n = bs.length) (hl : bs.length ≤ 1000000) (h : num (bs.drop p) = some (fold i, k)) : CT Try.prog 28 [.c (.p 0 0)] (upd EW.emp (WR bs p n false)) 2 2 (.c (.v (.int .i64 i))) (upd (upd EW.emp (WR bs p n false)) [(.b 0, .b (.m true (rcs (p + k) (n - k) false)))]) := by
  have := rint_ok bs p n _ k hy hn hl h
  rwa [unfold_fold] at this
theorem rbit_b (bs : List Int) (p n k : Nat) (f : Bool) (hy : By bs) (hn : p + n = bs.length) (hl : bs.length ≤ 1000000) (h : num (bs.drop p) = some (bN f, k)) : CT Try.prog 30 [.c (.p 0 0)] (upd EW.emp (WR bs p n false)) 2 2 (.c (.v (.bool f))) (upd (upd EW.emp (WR bs p n false)) [(.b 0, .b (.m true (rcs (p + k) (n - k) false)))]) := by
  have := rbit_ok bs p n _ k hy hn hl h (by unfold bN; split <;> omega)
  rwa [show decide (bN f = 1) = f by cases f <;> rfl] at this
theorem rtext_b (bs o : List Int) (p n m k : Nat) (hy : By bs) (hn : p + n = bs.length) (hl : bs.length ≤ 1000000) (hm : m < 9223372036854775808) (h : num (bs.drop p) = some (o.length, k) ∧ (bs.drop (p + k)).take o.length = o) (hv : o.length ≤ m) (hk : k + o.length ≤ n) : CT Try.prog 31 [.c (.p 0 0), .c (.v (.int .i64 m))] (upd EW.emp (WR bs p n false)) 2 3 (.c (.g 2 0 o.length o.length 1)) (upd (upd EW.emp (WR bs p n false)) [(.b 0, .b (.m true (rcs (p + k + o.length) (n - k - o.length) false))), (.l 2, .l true), (.b 2, .b (.w true (nums .u8 o)))]) := by
  have := rtext_ok bs p n m _ k hy hn hl hm h.1 hv hk
  rwa [h.2] at this
theorem tl0 {l : List Ob} {j : Nat} (h : j < l.length) (hk : (l.getD j Ob.zero).k = 0) : (encK l j).length + (formN (l.getD j Ob.zero).u).length = (encK l (j + 1)).length := by rw [← es0 h hk, List.length_append]
theorem tl1 {l : List Ob} {j : Nat} (h : j < l.length) (hk : (l.getD j Ob.zero).k = 1) : (encK l j).length + (formN (fold (l.getD j Ob.zero).i)).length = (encK l (j + 1)).length := by rw [← es1 h hk, List.length_append]
theorem tl2 {l : List Ob} {j : Nat} (h : j < l.length) (hk : (l.getD j Ob.zero).k = 2) : (encK l j).length + (formN (low16 (l.getD j Ob.zero).n)).length = (encK l (j + 1)).length := by rw [← es2 h hk, List.length_append]
theorem tl3 {l : List Ob} {j : Nat} (h : j < l.length) (hk : (l.getD j Ob.zero).k = 3) : (encK l j).length + (formN (bN (l.getD j Ob.zero).f)).length = (encK l (j + 1)).length := by rw [← es3 h hk, List.length_append]; rfl
theorem tl4 {l : List Ob} {j : Nat} (h : j < l.length) (hk : (l.getD j Ob.zero).k = 4) : (encK l j).length + (formN (l.getD j Ob.zero).bs.length).length + (l.getD j Ob.zero).bs.length = (encK l (j + 1)).length := by rw [← es4 h hk, List.length_append, List.length_append]
end Go.Proofs.Ytnlneihalfekiaa
