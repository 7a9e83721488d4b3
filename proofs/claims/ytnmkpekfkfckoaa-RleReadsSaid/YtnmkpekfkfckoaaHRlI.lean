import Derived.Test.YtnmkpekfkfckoaaHCrP
import Derived.Test.YtnmkpekfkfckoaaHPkD
import Derived.Test.YtnmkpekfkfckoaaHRlF
import Derived.Test.YtnmkpekfkfckoaaHPyE
import Derived.Test.YtnmkpekfkfckoaaHImJ
/- Walking over named blocks: a slice that is loaded out of a cell gets a name of its own. No program in sight. -/
/- rle: Encode. -/
namespace Go.Proofs.Ytnmkpekfkfckoaa
set_option linter.unusedSimpArgs false
set_option linter.unusedVariables false
open Go.RowKit EV
open SX (Wr Tv Qu Rm Sh Is conjP eqs_iff eqs_false)
open EW (PlL PlT PlV PlVs LfV Mm Bt Opn GV YT lpOf nums)
set_option maxRecDepth 20000
/-- A span that may be, of numbers of their types. -/
structure Gd (l : List Px) : Prop where
  sp : spOk l
  wf : ∀ i, i < l.length → (l.getD i Px.zero).wf
theorem pixB_gd {l : List Px} (h : Gd l) {a k : Nat} (hk : a + k ≤ l.length) : (pixB l a k).length ≤ 40 * k := pixB_len h.sp.2 h.wf a k hk
/-- What has been written when a run is done. -/
abbrev runBs (l : List Px) (bs : List Int) (at_ a b k : Nat) : List Int := bs ++ formN (a - at_) ++ formN (b - a) ++ pixB l a k
end Go.Proofs.Ytnmkpekfkfckoaa
/- rle: Encode. -/
/- rle: Encode, Size. -/
namespace Go.Proofs.Ytnmkpekfkfckoaa
set_option linter.unusedSimpArgs false
set_option linter.unusedVariables false
open Go.RowKit EV
open SX (Wr Tv Qu Rm Sh Is conjP eqs_iff eqs_false)
open EW (PlL PlT PlV PlVs LfV Mm Bt Opn GV YT lpOf nums)
set_option maxRecDepth 20000
abbrev EncR (f : FuncId) (o : Bool) (l : List Px) (r : List Int) (e : Int) : Prop := CT Try.prog f [.c (.g 0 0 l.length l.length 4)] (upd EW.emp (WP o l)) 1 2 (.t [.inl (.g 1 0 r.length r.length 1), .inl (.v (.int .i64 e))]) (upd (upd EW.emp (WP o l)) [(.l 1, .l true), (.b 1, .b (.w true (nums .u8 r)))])
theorem rleB_len {l : List Px} (hg : Gd l) : ∀ (k a : Nat), l.length - a ≤ k → a ≤ l.length → (encB l a).length ≤ 60 * (l.length - a)
  | 0, a, h, h0 => by rw [encB_end (by omega)]; simp
  | k + 1, a, h, h0 => by
    have hl := hg.sp.1
    have h1 := runA_le h0
    by_cases ha : a < l.length
    · by_cases hr : runA l a < l.length
      · have h2 := runB_gt hr
        have := rleB_len hg k (runB l a) (by omega) h2.2
        have f1 := formN_10 (n := runA l a - a) (by omega)
        have f2 := formN_10 (n := runB l a - runA l a) (by omega)
        have f3 := pixB_gd hg (a := runA l a) (k := runB l a - runA l a) (by omega)
        rw [encB_run ha hr]; simp only [List.length_append]; omega
      · have f1 := formN_10 (n := l.length - a) (by omega)
        rw [encB_last ha hr]; omega
    · rw [encB_end ha]; simp
theorem encB_by (l : List Px) : ∀ (k a : Nat), l.length - a ≤ k → a ≤ l.length → By (encB l a)
  | 0, a, h, h0 => by rw [encB_end (by omega)]; intro x hx; simp at hx
  | k + 1, a, h, h0 => by
    have h1 := runA_le h0
    by_cases ha : a < l.length
    · by_cases hr : runA l a < l.length
      · have h2 := runB_gt hr
        rw [encB_run ha hr]
        exact by_app2 (by_app2 (by_app2 (formN_by _) (formN_by _)) (pixB_by _ _ _)) (encB_by l k (runB l a) (by omega) h2.2)
      · rw [encB_last ha hr]; exact formN_by _
    · rw [encB_end ha]; intro x hx; simp at hx
theorem rleB_by (l : List Px) : By (rleB l) := by_app2 (formN_by _) (encB_by l l.length 0 (by omega) (by omega))
theorem rleB_le {l : List Px} (hg : Gd l) : (rleB l).length ≤ 10 + 60 * l.length := by
  have hl := hg.sp.1
  have f1 := formN_10 (n := l.length) (by omega)
  have := rleB_len hg l.length 0 (by omega) (by omega)
  rw [rleB, List.length_append]; omega
end Go.Proofs.Ytnmkpekfkfckoaa
