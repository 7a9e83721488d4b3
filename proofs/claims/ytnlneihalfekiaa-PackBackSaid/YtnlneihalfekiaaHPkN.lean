/- PackBack: what is written, read back. -/
import Derived.Test.YtnlneihalfekiaaHPkM
import Derived.Test.YtnlneihalfekiaaHPkG
import Derived.Test.YtnlneihalfekiaaHRow5
namespace Go.Proofs.Ytnlneihalfekiaa
set_option linter.unusedSimpArgs false
set_option linter.unusedVariables false
open Go.RowKit EV
open SX (Wr Tv Qu Rm Sh Is conjP eqs_iff eqs_false)
open EW (PlL PlT PlV PlVs LfV Mm Bt Opn GV YT lpOf nums)
set_option maxRecDepth 20000
def low16 (n : Int) : Nat := (n % 65536).toNat
theorem bt_low16 (n : Int) : Bt .i64 .and n 65535 ((low16 n : Nat) : Int) := by
  refine ⟨?_⟩
  show some (Value.int .i64 (IntKind.i64.wrap ((BitVec.ofInt 64 _ &&& BitVec.ofInt 64 _).toNat : Int))) = _
  rw [BitVec.toNat_and, show (BitVec.ofInt 64 65535).toNat = 2 ^ 16 - 1 by decide, Nat.and_two_pow_sub_one_eq_mod, BitVec.toNat_ofInt]
  have : (n % ((2 ^ 64 : Nat) : Int)).toNat % 2 ^ 16 = low16 n := by unfold low16; omega
  rw [this, wrap_i64 _ (by omega) (by unfold low16; omega)]
def bN (f : Bool) : Nat := if f then 1 else 0
def enc (o : Ob) : List Int := if o.k = 0 then formN o.u else if o.k = 1 then formN (fold o.i) else if o.k = 2 then formN (low16 o.n) else if o.k = 3 then formN (bN o.f) else if o.k = 4 then formN o.bs.length ++ o.bs else []
def encK (l : List Ob) (j : Nat) : List Int := (l.take j).flatMap enc
theorem encK_succ (l : List Ob) (j : Nat) (h : j < l.length) : encK l (j + 1) = encK l j ++ enc (l.getD j Ob.zero) := by
  rw [encK, List.take_add_one, List.flatMap_append, List.getElem?_eq_getElem h, List.getD_eq_getElem?_getD, List.getElem?_eq_getElem h]
  simp [encK]
structure Ob.ok (w : World) (o : Ob) : Prop where
  u : o.u < 18446744073709551616
  i0 : -9223372036854775808 ≤ o.i
  i1 : o.i ≤ 9223372036854775807
  by_ : By o.bs
  inA : InA (.slice o.a o.bs.length o.cap) o.b o.off o.bs.length o.room 1
  src : SrcG w o.b o.off o.room (nums .u8 o.bs)
theorem enc_by {w : World} {o : Ob} (h : o.ok w) : By (enc o) := by
  unfold enc
  split
  · exact formN_by _
  split
  · exact formN_by _
  split
  · exact formN_by _
  split
  · exact formN_by _
  split
  · intro x hx
    rcases List.mem_append.1 hx with hx | hx
    · exact formN_by _ x hx
    · exact h.by_ x hx
  · intro x hx; cases hx
theorem enc_len {w : World} {o : Ob} (h : o.ok w) (hb : o.bs.length ≤ 300) : (enc o).length ≤ 310 := by
  have h1 := formN_10 h.u
  have h2 := formN_10 (fold_lt h.i0 h.i1)
  have h3 : (formN (low16 o.n)).length ≤ 10 := formN_10 (by unfold low16; omega)
  have h4 : (formN (bN o.f)).length ≤ 10 := formN_10 (by unfold bN; split <;> omega)
  have h5 : (formN o.bs.length).length ≤ 10 := formN_10 (by omega)
  unfold enc
  split
  · omega
  split
  · omega
  split
  · omega
  split
  · omega
  split
  · rw [List.length_append]; omega
  · simp
section
variable {w : World} {l : List Ob} (hv : ∀ j, j < l.length → (l.getD j Ob.zero).ok w) (hb : ∀ j, j < l.length → (l.getD j Ob.zero).bs.length ≤ 300)
include hv hb
theorem encK_len : ∀ j, j ≤ l.length → (encK l j).length ≤ 310 * j
  | 0, _ => by simp [encK]
  | j + 1, h => by
    rw [encK_succ l j (by omega), List.length_append]
    have := encK_len j (by omega)
    have := enc_len (hv j (by omega)) (hb j (by omega))
    omega
omit hb in
theorem encK_by : ∀ j, j ≤ l.length → By (encK l j)
  | 0, _ => by intro x hx; simp [encK] at hx
  | j + 1, h => by
    rw [encK_succ l j (by omega)]
    intro x hx
    rcases List.mem_append.1 hx with hx | hx
    · exact encK_by j (by omega) x hx
    · exact enc_by (hv j (by omega)) x hx
end
theorem encK_drop (l : List Ob) (j : Nat) (h : j < l.length) : ∃ t, (encK l l.length).drop (encK l j).length = enc (l.getD j Ob.zero) ++ t := by
  refine ⟨(l.drop (j + 1)).flatMap enc, ?_⟩
  have e : encK l l.length = encK l j ++ (enc (l.getD j Ob.zero) ++ (l.drop (j + 1)).flatMap enc) := by
    rw [← List.append_assoc, ← encK_succ l j h, encK, encK, ← List.flatMap_append, List.take_append_drop, List.take_length]
  rw [e, List.drop_left']
  rfl
theorem es0 {l : List Ob} {j : Nat} (h : j < l.length) (hk : (l.getD j Ob.zero).k = 0) : encK l j ++ formN (l.getD j Ob.zero).u = encK l (j + 1) := by rw [encK_succ l j h, enc, if_pos hk]
theorem es1 {l : List Ob} {j : Nat} (h : j < l.length) (hk : (l.getD j Ob.zero).k = 1) : encK l j ++ formN (fold (l.getD j Ob.zero).i) = encK l (j + 1) := by rw [encK_succ l j h, enc, if_neg (by omega), if_pos hk]
theorem es2 {l : List Ob} {j : Nat} (h : j < l.length) (hk : (l.getD j Ob.zero).k = 2) : encK l j ++ formN (low16 (l.getD j Ob.zero).n) = encK l (j + 1) := by rw [encK_succ l j h, enc, if_neg (by omega), if_neg (by omega), if_pos hk]
theorem es3 {l : List Ob} {j : Nat} (h : j < l.length) (hk : (l.getD j Ob.zero).k = 3) : encK l j ++ formN (if (l.getD j Ob.zero).f then 1 else 0) = encK l (j + 1) := by
  show encK l j ++ formN (bN (l.getD j Ob.zero).f) = _
  rw [encK_succ l j h, enc, if_neg (by omega), if_neg (by omega), if_neg (by omega), if_pos hk]
theorem es4 {l : List Ob} {j : Nat} (h : j < l.length) (hk : (l.getD j Ob.zero).k = 4) : encK l j ++ formN (l.getD j Ob.zero).bs.length ++ (l.getD j Ob.zero).bs = encK l (j + 1) := by rw [encK_succ l j h, enc, if_neg (by omega), if_neg (by omega), if_neg (by omega), if_neg (by omega), if_pos hk, List.append_assoc]
theorem esD {l : List Ob} {j : Nat} (h : j < l.length) (h0 : (l.getD j Ob.zero).k ≠ 0) (h1 : (l.getD j Ob.zero).k ≠ 1) (h2 : (l.getD j Ob.zero).k ≠ 2) (h3 : (l.getD j Ob.zero).k ≠ 3) (h4 : (l.getD j Ob.zero).k ≠ 4) : encK l j = encK l (j + 1) := by rw [encK_succ l j h, enc, if_neg h0, if_neg h1, if_neg h2, if_neg h3, if_neg h4, List.append_nil]
end Go.Proofs.Ytnlneihalfekiaa
