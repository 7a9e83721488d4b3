/- PixelNearest: the walk of the law. -/
import Derived.Test.YtjcabgoanlhhnaaPx8
import Derived.Test.YtjcabgoanlhhnaaEw6
namespace Go.Proofs.Ytjcabgoanlhhnaa
set_option linter.unusedSimpArgs false
set_option linter.unusedVariables false
open Go.RowKit EV
open SX (Wr Tv Qu Rm Sh Is conjP eqs_iff eqs_false)
open EW (PlL PlT PlV PlVs LfV Mm Bt Opn GV)
set_option maxRecDepth 20000
theorem near_comm (a b : Px) : b.near a = a.near b := by
  rw [Px.near_eq, Px.near_eq]
  by_cases h : a.ahead b <;> by_cases h' : b.ahead a <;> simp [h, h']
  · exact absurd h' (Px.ahead_asymm h)
  · exact (Px.ahead_total h h').symm
theorem near_self (a : Px) : a.near a = a := by rw [Px.near_eq]; simp
theorem near_min {a b m : Px} (h : m = a ∨ m = b) (h1 : m.le a) (h2 : m.le b) : a.near b = m := by
  have g1 := Px.near_le1 a b
  have g2 := Px.near_le2 a b
  rcases h with rfl | rfl
  · rcases Px.near_mem m b with h3 | h3
    · exact h3
    · exact Px.le_antisymm g1 (by rw [h3]; exact h2)
  · rcases Px.near_mem a m with h3 | h3
    · exact Px.le_antisymm g2 (by rw [h3]; exact h1)
    · exact h3
theorem near_assoc (a b c : Px) : a.near (b.near c) = (a.near b).near c := by
  have g1 := Px.near_le1 a b
  have g2 := Px.near_le2 a b
  have g3 := Px.near_le1 b c
  have g4 := Px.near_le2 b c
  refine near_min (m := (a.near b).near c) ?_ (Px.le_trans (Px.near_le1 _ _) g1) ?_
  · rcases Px.near_mem (a.near b) c with h | h
    · rcases Px.near_mem a b with h2 | h2
      · exact .inl (h.trans h2)
      · right; rw [h, h2]
        refine (near_min (.inl rfl) (Px.le_refl _) ?_).symm
        have := Px.near_le2 (a.near b) c
        rwa [h, h2] at this
    · right; rw [h]
      refine (near_min (.inr rfl) ?_ (Px.le_refl _)).symm
      have := Px.near_le1 (a.near b) c
      rw [h] at this
      exact Px.le_trans this g2
  · rcases Px.near_mem b c with h | h
    · rw [h]; exact Px.le_trans (Px.near_le1 _ _) g2
    · rw [h]; exact Px.near_le2 _ _
theorem cmp_neg (a b : Px) : b.cmp a = -(a.cmp b) := by
  rw [Px.rcmp_eq, Px.rcmp_eq, Px.rcmp, Px.rcmp]
  by_cases h : a.ahead b <;> by_cases h' : b.ahead a <;> simp [h, h']
  exact absurd h' (Px.ahead_asymm h)
theorem cmp_bound (a b : Px) : -1 ≤ a.cmp b ∧ a.cmp b ≤ 1 := by
  rw [Px.rcmp_eq, Px.rcmp]; repeat' split
  all_goals omega
theorem cmp_zero (a b : Px) : a.cmp b = 0 ↔ a = b := by
  rw [Px.rcmp_eq, Px.rcmp]
  constructor
  · intro h
    by_cases h1 : a.ahead b
    · simp [h1] at h
    · by_cases h2 : b.ahead a
      · simp [h1, h2] at h
      · exact Px.ahead_total h1 h2
  · rintro rfl; simp [Px.ahead_irrefl]
theorem cmp_is (a b : Px) (r : Int) (w : World) (h : a.cmp b = r) : Calls Try.prog 9 #[a.val, b.val] w fun e w' => e = .returned (.int .i64 r) ∧ Below w.heap.size w w' := by
  have := pcmp a b w; rwa [h] at this
theorem near_none {a : Px} {k : Int} (h : (if a.may then 0 else 130) = k) (hk : k = 0) : a.near ⟨16777216, 0, 0, 0⟩ = a := by
  have hm : a.may := by
    by_cases hm : a.may
    · exact hm
    · rw [if_neg hm] at h; omega
  rw [Px.near_eq, if_neg]
  rcases (Px.may_iff a).1 hm with h1 | h1
  · unfold Px.ok at h1; unfold Px.ahead; simp only; omega
  · rw [h1]; exact Px.ahead_irrefl _
theorem alive_ct (w : World) : Calls Try.prog 7 #[] w fun e w' => e = .returned (.bool true) ∧ Below w.heap.size w w' := by
  refine EW.eEnter Try.func7 rfl Try.ntmps7 (by (((repeat (first | apply PlVs.nil | (apply PlVs.cons; (focus (first | (apply PlV.a; ((repeat (first | exact PlL.nil | apply PlL.cons)); (first | done | fail))) | (apply PlV.t; ((repeat (first | exact PlT.nil | (apply PlT.row; (focus (repeat (first | exact PlL.nil | apply PlL.cons)); (first | done | fail))) | apply PlT.one)); (first | done | fail))) | exact PlV.c))))); (first | done | fail)))) rfl ?_
  all_goals try (refine EW.nm ?_)
  all_goals try (first | refine EW.eRegL (id := 0) ?_ | refine EW.eReg (id := 0) ?_)
  all_goals try (first | refine EW.eAssign EV.wide_like (id := 0) (d := 0) ?_)
  all_goals try (refine EW.eEnd (id := 0) ?_)
  all_goals try (refine EW.nm ?_)
  all_goals try (first | refine EW.eRegL (id := 1) ?_ | refine EW.eReg (id := 1) ?_)
  all_goals try (first | refine EW.eBuild EV.wide_like (id := 1) (d := 4) ?_)
  all_goals try (first | refine EW.eBuild EV.wide_like (id := 1) (d := 5) ?_)
  all_goals try (first | refine EW.eBuild EV.wide_like (id := 1) (d := 6) ?_)
  all_goals try (first | refine EW.eAlloc EV.wide_like (id := 1) (d := 1) ?_)
  all_goals try (first | refine EW.eAlloc EV.wide_like (id := 1) (d := 2) ?_)
  all_goals try (first | refine EW.eAlloc EV.wide_like (id := 1) (d := 3) ?_)
  all_goals try (first | refine EW.eStoreW EV.wide_like (id := 1) (k := 4) ?_ | refine EW.eStore EV.wide_like (id := 1) (k := 4) ?_)
  all_goals try (first | refine EW.eStoreW EV.wide_like (id := 1) (k := 4) ?_ | refine EW.eStore EV.wide_like (id := 1) (k := 4) ?_)
  all_goals try (first | refine EW.eStoreW EV.wide_like (id := 1) (k := 4) ?_ | refine EW.eStore EV.wide_like (id := 1) (k := 4) ?_)
  all_goals try (refine EW.eEnd (id := 1) ?_)
  all_goals try (refine EW.nm ?_)
  all_goals try (first | refine EW.eRegL (id := 2) ?_ | refine EW.eReg (id := 2) ?_)
  all_goals try (first | refine EW.eLoadA EV.wide_like (id := 2) (d := 7) (k := 4) ?_)
  all_goals try (first | refine EW.eLoadA EV.wide_like (id := 2) (d := 8) (k := 4) ?_)
  all_goals try (first | refine EW.eCall EV.wide_like (id := 2) (d := 9) Try.call8 (fun w => near_is ⟨5, 2, 0, 0⟩ ⟨5, 1, 0, 0⟩ ⟨5, 1, 0, 0⟩ w (by decide)) ?_)
  all_goals try (first | refine EW.eLoadA EV.wide_like (id := 2) (d := 10) (k := 4) ?_)
  all_goals try (first | refine EW.eEqlA EV.wide_like (id := 2) (d := 11) ?_)
  all_goals try (first | refine EW.eMove EV.wide_like (id := 2) (d := 12) ?_)
  all_goals try (refine EW.eGuard (id := 2) (j := 5) (o := ⟨some 13, _, _, _, _, _⟩) ?_ ?_ <;> (intro hb hb'; (try dsimp only at hb'); (try (exfalso; first | omega | with_reducible exact absurd rfl hb'))))
  all_goals try (first | refine EW.eSkipT EV.wide_like (id := 2) (j := 5) (e := 13) ?_ | refine EW.eSkipU EV.wide_like (id := 2) (j := 5) (e := 13) ?_ | refine EW.eLoadA EV.wide_like (id := 2) (d := 13) (k := 4) ?_)
  all_goals try (refine EW.eGuard (id := 2) (j := 5) (o := ⟨some 14, _, _, _, _, _⟩) ?_ ?_ <;> (intro hb hb'; (try dsimp only at hb'); (try (exfalso; first | omega | with_reducible exact absurd rfl hb'))))
  all_goals try (first | refine EW.eSkipT EV.wide_like (id := 2) (j := 5) (e := 14) ?_ | refine EW.eSkipU EV.wide_like (id := 2) (j := 5) (e := 14) ?_ | refine EW.eLoadA EV.wide_like (id := 2) (d := 14) (k := 4) ?_)
  all_goals try (refine EW.eGuard (id := 2) (j := 5) (o := ⟨some 15, _, _, _, _, _⟩) ?_ ?_ <;> (intro hb hb'; (try dsimp only at hb'); (try (exfalso; first | omega | with_reducible exact absurd rfl hb'))))
  all_goals try (first | refine EW.eSkipT EV.wide_like (id := 2) (j := 5) (e := 15) ?_ | refine EW.eSkipU EV.wide_like (id := 2) (j := 5) (e := 15) ?_ | refine EW.eCall EV.wide_like (id := 2) (d := 15) Try.call8 (fun w => near_is ⟨4, 9, 0, 0⟩ ⟨5, 1, 0, 0⟩ ⟨4, 9, 0, 0⟩ w (by decide)) ?_)
  all_goals try (refine EW.eGuard (id := 2) (j := 5) (o := ⟨some 16, _, _, _, _, _⟩) ?_ ?_ <;> (intro hb hb'; (try dsimp only at hb'); (try (exfalso; first | omega | with_reducible exact absurd rfl hb'))))
  all_goals try (first | refine EW.eSkipT EV.wide_like (id := 2) (j := 5) (e := 16) ?_ | refine EW.eSkipU EV.wide_like (id := 2) (j := 5) (e := 16) ?_ | refine EW.eLoadA EV.wide_like (id := 2) (d := 16) (k := 4) ?_)
  all_goals try (refine EW.eGuard (id := 2) (j := 5) (o := ⟨some 17, _, _, _, _, _⟩) ?_ ?_ <;> (intro hb hb'; (try dsimp only at hb'); (try (exfalso; first | omega | with_reducible exact absurd rfl hb'))))
  all_goals try (first | refine EW.eSkipT EV.wide_like (id := 2) (j := 5) (e := 17) ?_ | refine EW.eSkipU EV.wide_like (id := 2) (j := 5) (e := 17) ?_ | refine EW.eEqlA EV.wide_like (id := 2) (d := 17) ?_)
  all_goals try (refine EW.eChoice (id := 2) (d := some 18) ?_ ?_ <;> (intro hb hb'; (try dsimp only at hb'); (try (exfalso; first | omega | with_reducible exact absurd rfl hb'))))
  all_goals try (first | refine EW.ePickT EV.wide_like (id := 2) (d := 18) ?_ | refine EW.ePickF EV.wide_like (id := 2) (d := 18) ?_)
  all_goals try (first | refine EW.eMove EV.wide_like (id := 2) (d := 19) ?_)
  all_goals try (refine EW.eGuard (id := 2) (j := 12) (o := ⟨some 20, _, _, _, _, _⟩) ?_ ?_ <;> (intro hb hb'; (try dsimp only at hb'); (try (exfalso; first | omega | with_reducible exact absurd rfl hb'))))
  all_goals try (first | refine EW.eSkipT EV.wide_like (id := 2) (j := 12) (e := 20) ?_ | refine EW.eSkipU EV.wide_like (id := 2) (j := 12) (e := 20) ?_ | refine EW.eLoadA EV.wide_like (id := 2) (d := 20) (k := 4) ?_)
  all_goals try (refine EW.eGuard (id := 2) (j := 12) (o := ⟨some 21, _, _, _, _, _⟩) ?_ ?_ <;> (intro hb hb'; (try dsimp only at hb'); (try (exfalso; first | omega | with_reducible exact absurd rfl hb'))))
  all_goals try (first | refine EW.eSkipT EV.wide_like (id := 2) (j := 12) (e := 21) ?_ | refine EW.eSkipU EV.wide_like (id := 2) (j := 12) (e := 21) ?_ | refine EW.eCall EV.wide_like (id := 2) Try.call10 (fun w => pcheck_is ⟨5, 2, 0, 0⟩ 0 w (by decide)) ?_)
  all_goals try (refine EW.eGuard (id := 2) (j := 12) (o := ⟨some 22, _, _, _, _, _⟩) ?_ ?_ <;> (intro hb hb'; (try dsimp only at hb'); (try (exfalso; first | omega | with_reducible exact absurd rfl hb'))))
  all_goals try (first | refine EW.eSkipT EV.wide_like (id := 2) (j := 12) (e := 22) ?_ | refine EW.eSkipU EV.wide_like (id := 2) (j := 12) (e := 22) ?_ | refine EW.eEql EV.wide_like (id := 2) (d := 22) ?_)
  all_goals try (refine EW.eChoice (id := 2) (d := some 23) ?_ ?_ <;> (intro hb hb'; (try dsimp only at hb'); (try (exfalso; first | omega | with_reducible exact absurd rfl hb'))))
  all_goals try (first | refine EW.ePickT EV.wide_like (id := 2) (d := 23) ?_ | refine EW.ePickF EV.wide_like (id := 2) (d := 23) ?_)
  all_goals try (first | refine EW.eMove EV.wide_like (id := 2) (d := 24) ?_)
  all_goals try (refine EW.eGuard (id := 2) (j := 17) (o := ⟨some 25, _, _, _, _, _⟩) ?_ ?_ <;> (intro hb hb'; (try dsimp only at hb'); (try (exfalso; first | omega | with_reducible exact absurd rfl hb'))))
  all_goals try (first | refine EW.eSkipT EV.wide_like (id := 2) (j := 17) (e := 25) ?_ | refine EW.eSkipU EV.wide_like (id := 2) (j := 17) (e := 25) ?_ | refine EW.eCall EV.wide_like (id := 2) Try.call11 (fun w => pempty w) ?_)
  all_goals try (refine EW.eGuard (id := 2) (j := 17) (o := ⟨some 26, _, _, _, _, _⟩) ?_ ?_ <;> (intro hb hb'; (try dsimp only at hb'); (try (exfalso; first | omega | with_reducible exact absurd rfl hb'))))
  all_goals try (first | refine EW.eSkipT EV.wide_like (id := 2) (j := 17) (e := 26) ?_ | refine EW.eSkipU EV.wide_like (id := 2) (j := 17) (e := 26) ?_ | refine EW.eBuild EV.wide_like (id := 2) (d := 26) ?_)
  all_goals try (refine EW.eGuard (id := 2) (j := 17) (o := ⟨some 27, _, _, _, _, _⟩) ?_ ?_ <;> (intro hb hb'; (try dsimp only at hb'); (try (exfalso; first | omega | with_reducible exact absurd rfl hb'))))
  all_goals try (first | refine EW.eSkipT EV.wide_like (id := 2) (j := 17) (e := 27) ?_ | refine EW.eSkipU EV.wide_like (id := 2) (j := 17) (e := 27) ?_ | refine EW.eEqlA EV.wide_like (id := 2) (d := 27) ?_)
  all_goals try (refine EW.eChoice (id := 2) (d := some 28) ?_ ?_ <;> (intro hb hb'; (try dsimp only at hb'); (try (exfalso; first | omega | with_reducible exact absurd rfl hb'))))
  all_goals try (first | refine EW.ePickT EV.wide_like (id := 2) (d := 28) ?_ | refine EW.ePickF EV.wide_like (id := 2) (d := 28) ?_)
  all_goals try (first | refine EW.eAssign EV.wide_like (id := 2) (d := 0) ?_)
  all_goals try (refine EW.eDraw (id := 2) EW.fok_wide' ?_)
  all_goals try (refine EW.nm ?_)
  all_goals (refine EW.eLeaveP (by first | exact .inl rfl | exact .inr rfl) (by rfl) (by rfl) (by (first | (apply PlV.a; ((repeat (first | exact PlL.nil | apply PlL.cons)); (first | done | fail))) | (apply PlV.t; ((repeat (first | exact PlT.nil | (apply PlT.row; (focus (repeat (first | exact PlL.nil | apply PlL.cons)); (first | done | fail))) | apply PlT.one)); (first | done | fail))) | exact PlV.c)) ?_; intro w' hW; refine ⟨?_, hW⟩)
  all_goals rfl
/-- What comes out when one goes from the end. -/
def dbl (l : List Px) (j : Nat) : List Px := (l.drop j).reverse.flatMap fun p => [p, p]
theorem drop_at (l : List Px) (j : Nat) (h : j < l.length) : l.drop j = l.getD j Px.zero :: l.drop (j + 1) := by
  rw [List.drop_eq_getElem_cons h]; simp [List.getD_eq_getElem?_getD, List.getElem?_eq_getElem h]
theorem dbl_succ (l : List Px) (j : Nat) (h : j < l.length) : dbl l j = dbl l (j + 1) ++ [l.getD j Px.zero, l.getD j Px.zero] := by
  rw [dbl, drop_at l j h]; simp [dbl]
theorem dbl_len (l : List Px) (j : Nat) : (dbl l j).length = 2 * (l.length - j) := by
  have : ∀ m : List Px, (m.flatMap fun p => [p, p]).length = 2 * m.length := fun m => by
    induction m with
    | nil => rfl
    | cons x m ih => simp only [List.flatMap_cons, List.length_append, List.length_cons, List.length_nil, ih]; omega
  rw [dbl, this]; simp
@[simp] theorem dbl_none (l : List Px) : dbl l l.length = [] := by simp [dbl]
theorem dbl_mem (l : List Px) (p : Px) : p ∈ dbl l 0 ↔ p ∈ l := by simp [dbl]
theorem least_dbl (l : List Px) : least (dbl l 0) = least l := by
  by_cases h : l = []
  · subst h; rfl
  have hne : dbl l 0 ≠ [] := by
    intro h0
    have := dbl_len l 0
    rw [h0] at this
    have : l.length = 0 := by simp at this; omega
    exact h (List.eq_nil_of_length_eq_zero this)
  obtain ⟨h1, h2⟩ := least_mem hne
  exact least_unique ((dbl_mem l _).1 h1) fun q hq => h2 q ((dbl_mem l q).2 hq)
def fnd (l : List Px) (j : Nat) : Bool := decide (l.length = 0) || (l.drop j).any fun p => decide (p.z = (least l).z ∧ p.o = (least l).o ∧ p.t = (least l).t ∧ p.c = (least l).c)
theorem fnd_succ (l : List Px) (j : Nat) (h : j < l.length) : fnd l j = (fnd l (j + 1) || decide ((l.getD j Px.zero).z = (least l).z ∧ (l.getD j Px.zero).o = (least l).o ∧ (l.getD j Px.zero).t = (least l).t ∧ (l.getD j Px.zero).c = (least l).c)) := by
  rw [fnd, drop_at l j h, List.any_cons, fnd]
  cases decide (l.length = 0) <;> simp [Bool.or_comm]
theorem fnd_zero (l : List Px) : fnd l 0 = true := by
  unfold fnd
  by_cases h : l = []
  · subst h; rfl
  · rw [Bool.or_eq_true]; right
    rw [List.any_eq_true]
    exact ⟨least l, by simpa using (least_mem h).1, by simp⟩
instance (priority := high) (l : List Px) (j : Nat) : EW.RowV (pvs (dbl l j)) 4 (2 * (l.length - j)) (fun i => ((dbl l j).getD i Px.zero).vals) := ⟨by rw [pvs_length, dbl_len], fun i h => by
  rw [← dbl_len] at h
  rw [pvs_cut _ i h]; simp [List.getD_eq_getElem?_getD, List.getElem?_eq_getElem h]⟩
@[simp] theorem pvs_nil : pvs [] = [] := rfl
theorem fnd_first {l : List Px} (h : l.length = 0) : SX.eqs [.int .u32 (least l).z, .int .i64 (least l).o, .int .i64 (least l).t, .int .u32 (least l).c] [.int .u32 16777216, .int .i64 0, .int .i64 0, .int .u32 0] = fnd l l.length := by
  have : l = [] := List.eq_nil_of_length_eq_zero h
  subst this; rfl
theorem fnd_stay {l : List Px} {j : Nat} (hf : fnd l j = true) (h1 : 0 < j) (h : j ≤ l.length) : true = fnd l ((j : Int) - 1).toNat := by
  have e : ((j : Int) - 1).toNat = j - 1 := by omega
  rw [e, fnd_succ l (j - 1) (by omega), show j - 1 + 1 = j by omega, hf]; rfl
theorem fnd_go {l : List Px} {j : Nat} (hf : fnd l j = false) (h1 : 0 < j) (h : j ≤ l.length) : SX.eqs [.int .u32 (l.getD ((j : Int) - 1).toNat Px.zero).z, .int .i64 (l.getD ((j : Int) - 1).toNat Px.zero).o, .int .i64 (l.getD ((j : Int) - 1).toNat Px.zero).t, .int .u32 (l.getD ((j : Int) - 1).toNat Px.zero).c] [.int .u32 (least l).z, .int .i64 (least l).o, .int .i64 (least l).t, .int .u32 (least l).c] = fnd l ((j : Int) - 1).toNat := by
  have e : ((j : Int) - 1).toNat = j - 1 := by omega
  rw [e, fnd_succ l (j - 1) (by omega), show j - 1 + 1 = j by omega, hf, Bool.false_or, Bool.eq_iff_iff, eqs_iff, decide_eq_true_eq]
  simp only [conjP, and_true]
theorem fnd_no {l : List Px} (h : l.length ≠ 0) : false = fnd l l.length := by simp [fnd, h]
theorem pvs_dbl {l : List Px} {j : Nat} (h1 : 0 < j) (h : j ≤ l.length) : pvs (dbl l j) ++ [.int .u32 (l.getD ((j : Int) - 1).toNat Px.zero).z, .int .i64 (l.getD ((j : Int) - 1).toNat Px.zero).o, .int .i64 (l.getD ((j : Int) - 1).toNat Px.zero).t, .int .u32 (l.getD ((j : Int) - 1).toNat Px.zero).c, .int .u32 (l.getD ((j : Int) - 1).toNat Px.zero).z, .int .i64 (l.getD ((j : Int) - 1).toNat Px.zero).o, .int .i64 (l.getD ((j : Int) - 1).toNat Px.zero).t, .int .u32 (l.getD ((j : Int) - 1).toNat Px.zero).c] = pvs (dbl l ((j : Int) - 1).toNat) := by
  have e : ((j : Int) - 1).toNat = j - 1 := by omega
  rw [e, dbl_succ l (j - 1) (by omega), ← pvs_append, show j - 1 + 1 = j by omega]
  rfl
def ncmp (l : List Px) (i : Nat) : Nat := ((l.getD i Px.zero).cmp (least l)).toNat
theorem ncmp_is (l : List Px) (i : Nat) (h : i < l.length) : (l.getD i Px.zero).cmp (least l) = (ncmp l i : Int) := by
  have hm : l.getD i Px.zero ∈ l := by
    rw [List.getD_eq_getElem?_getD, List.getElem?_eq_getElem h]; exact List.getElem_mem h
  have := (least_mem (by intro h0; subst h0; simp at h)).2 _ hm
  have : ¬ (l.getD i Px.zero).cmp (least l) < 0 := by rw [Px.cmp_lt]; exact this
  unfold ncmp; omega
theorem least_ctG' (o : Bool) (l : List Px) (n : Nat) (hn : n = l.length) (hl : l.length ≤ 100000000) : CT Try.prog 12 [.c (.g 0 0 n n 4)] (upd EW.emp [(.l 0, .l true), (.b 0, .b (.w o (pvs l)))]) 1 1 (.a (least l).cs) (upd (upd EW.emp [(.l 0, .l true), (.b 0, .b (.w o (pvs l)))]) []) := hn ▸ least_ctG o l hl
theorem least_dblG (o : Bool) (l : List Px) (hl : 2 * (l.length - 0) ≤ 100000000) : CT Try.prog 12 [.c (.g 0 0 (2 * (l.length - 0)) (2 * (l.length - 0)) 4)] (upd EW.emp [(.l 0, .l true), (.b 0, .b (.w o (pvs (dbl l 0))))]) 1 1 (.a (least l).cs) (upd (upd EW.emp [(.l 0, .l true), (.b 0, .b (.w o (pvs (dbl l 0))))]) []) := by
  have := least_ctG' o (dbl l 0) (2 * (l.length - 0)) (dbl_len l 0).symm (by rw [dbl_len]; exact hl)
  rwa [least_dbl] at this
set_option maxHeartbeats 4000000 in
theorem nearest_ct (o : Bool) (l : List Px) (k : Nat) (a b c : Px) : CT Try.prog 3 [.a a.cs, .a b.cs, .a c.cs, .c (.s 0 0 l.length k)] (upd EW.emp [(.l 0, .l true), (.b 0, .b (.w o (pvs l)))]) 1 1 (.c (.v (.bool true))) (upd (upd EW.emp [(.l 0, .l true), (.b 0, .b (.w o (pvs l)))]) []) := by
  obtain ⟨n12, h12⟩ : ∃ n, a.near b = n := ⟨_, rfl⟩
  obtain ⟨n23, h23⟩ : ∃ n, b.near c = n := ⟨_, rfl⟩
  obtain ⟨n123, h123⟩ : ∃ n, n12.near c = n := ⟨_, rfl⟩
  have h21 : b.near a = n12 := by rw [near_comm, h12]
  have h123' : a.near n23 = n123 := by rw [← h23, near_assoc, h12, h123]
  have h11 := near_self a
  obtain ⟨cr, hcr⟩ : ∃ r, a.cmp b = r := ⟨_, rfl⟩
  have hcr' : b.cmp a = -cr := by rw [cmp_neg, hcr]
  have hcb := cmp_bound a b
  rw [hcr] at hcb
  obtain ⟨hc1, hc2⟩ := hcb
  obtain ⟨kr, hkr⟩ : ∃ r : Int, (if a.may then 0 else 130) = r := ⟨_, rfl⟩
  have hce : (cr == 0) = SX.eqs [.int .u32 a.z, .int .i64 a.o, .int .i64 a.t, .int .u32 a.c] [.int .u32 b.z, .int .i64 b.o, .int .i64 b.t, .int .u32 b.c] := by
    rw [Bool.eq_iff_iff, eqs_iff, beq_iff_eq, ← hcr, cmp_zero]
    simp only [conjP, and_true]
    exact ⟨fun h => by rw [h]; simp, fun h => Px.ext4 h⟩
  obtain ⟨z, ow, t, co⟩ := a
  obtain ⟨z', ow', t', co'⟩ := b
  obtain ⟨z'', ow'', t'', co''⟩ := c
  obtain ⟨nz, no, nt, nc⟩ := n12
  obtain ⟨mz, mo, mt, mc⟩ := n23
  obtain ⟨lz, lo, lt, lc⟩ := n123
  refine EW.ctEnter [10, 20, 30, 40, 50, 60, 70, 80, 90, 100, 110, 120, 130, 140, 150, 160, 170, 180, 190, 200, 210, 220, 230, 240, 250, 260, 270, 280, 290, 300, 310, 320, 330, 340, 350, 360, 370, 380, 390, 400, 410, 420, 430, 440, 450, 460, 470, 480, 490, 500, 510, 520, 530, 540, 550, 560, 570, 580, 590, 600] Try.func3 rfl Try.ntmps3 rfl (by (((repeat (first | exact EW.NL.emp | (refine EW.NL.upd ?_ rfl) | refine EW.NL.drp ?_ | refine EW.NL.hp ?_ | refine EW.NL.argS ?_ | refine EW.NL.mix ?_)); (first | done | fail)))) ?_; intro w0 tch ini R hR
  all_goals try (refine EW.nm ?_)
  all_goals try (first | refine EW.eRegL (id := 0) ?_ | refine EW.eReg (id := 0) ?_)
  all_goals try (first | refine EW.eBox EV.wide_like (id := 0) (d := 4) ?_)
  all_goals try (first | refine EW.eBox EV.wide_like (id := 0) (d := 5) ?_)
  all_goals try (first | refine EW.eBox EV.wide_like (id := 0) (d := 6) ?_)
  all_goals try (first | refine EW.eAssign EV.wide_like (id := 0) (d := 8) ?_)
  all_goals try (refine EW.eEnd (id := 0) ?_)
  all_goals try (refine EW.nm ?_)
  all_goals try (first | refine EW.eRegL (id := 1) ?_ | refine EW.eReg (id := 1) ?_)
  all_goals try (first | refine EW.eCall EV.wide_like (id := 1) Try.call7 (fun w => alive_ct w) ?_)
  all_goals try (first | refine EW.eAssign EV.wide_like (id := 1) (d := 9) ?_)
  all_goals try (refine EW.eEnd (id := 1) ?_)
  all_goals try (refine EW.nm ?_)
  all_goals try (first | refine EW.eRegL (id := 2) ?_ | refine EW.eReg (id := 2) ?_)
  all_goals try (first | refine EW.eMove EV.wide_like (id := 2) (d := 17) ?_)
  all_goals try (first | refine EW.eLenS EV.wide_like (id := 2) (d := 18) ?_ | refine EW.eLenG EV.wide_like (id := 2) (d := 18) ?_ | refine EW.eLenN EV.wide_like (id := 2) (d := 18) ?_)
  all_goals try (first | refine EW.eGtr EV.wide_like (id := 2) (d := 19) ?_)
  all_goals try (first | refine EW.eMove EV.wide_like (id := 2) (d := 20) ?_)
  all_goals try (refine EW.eGuard (id := 2) (j := 3) (o := ⟨some 21, _, _, _, _, _⟩) ?_ ?_ <;> (intro hb hb'; (try dsimp only at hb'); (try (exfalso; first | omega | with_reducible exact absurd rfl hb'))))
  all_goals try (first | refine EW.eSkipF EV.wide_like (id := 2) (j := 3) (e := 21) ?_ | refine EW.eSkipU EV.wide_like (id := 2) (j := 3) (e := 21) ?_ | refine EW.eMove EV.wide_like (id := 2) (d := 21) ?_)
  all_goals try (refine EW.eGuard (id := 2) (j := 3) (o := ⟨some 22, _, _, _, _, _⟩) ?_ ?_ <;> (intro hb hb'; (try dsimp only at hb'); (try (exfalso; first | omega | with_reducible exact absurd rfl hb'))))
  all_goals try (first | refine EW.eSkipF EV.wide_like (id := 2) (j := 3) (e := 22) ?_ | refine EW.eSkipU EV.wide_like (id := 2) (j := 3) (e := 22) ?_ | refine EW.eNot EV.wide_like (id := 2) (d := 22) ?_)
  all_goals try (refine EW.eChoice (id := 2) (d := some 23) ?_ ?_ <;> (intro hb hb'; (try dsimp only at hb'); (try (exfalso; first | omega | with_reducible exact absurd rfl hb'))))
  all_goals try (first | refine EW.ePickT EV.wide_like (id := 2) (d := 23) ?_ | refine EW.ePickF EV.wide_like (id := 2) (d := 23) ?_)
  all_goals try (refine EW.eEnd (id := 2) ?_)
  all_goals try (refine EW.nm ?_)
  all_goals try (first | refine EW.eYes (x := Operand.tmp 23) ?_ | refine EW.eNo (x := Operand.tmp 23) ?_ | (refine EW.eCond (x := Operand.tmp 23) ?_ ?_ <;> (intro hb hb'; (try dsimp only at hb'); (try (exfalso; first | omega | with_reducible exact absurd rfl hb')))))
  all_goals try (refine EW.nm ?_)
  all_goals try (first | refine EW.eRegL (id := 3) ?_ | refine EW.eReg (id := 3) ?_)
  all_goals try (first | refine EW.eMove EV.wide_like (id := 3) (d := 24) ?_)
  all_goals try (first | refine EW.eAssign EV.wide_like (id := 3) (d := 8) ?_)
  all_goals try (refine EW.eEnd (id := 3) ?_)
  all_goals try (refine EW.nm ?_)
  all_goals try (first | refine EW.eRegL (id := 4) ?_ | refine EW.eReg (id := 4) ?_)
  all_goals try (first | refine EW.eLoadA EV.wide_like (id := 4) (d := 25) (k := 4) ?_)
  all_goals try (first | refine EW.eLoadA EV.wide_like (id := 4) (d := 26) (k := 4) ?_)
  all_goals try (first | refine EW.eCall EV.wide_like (id := 4) Try.call8 (fun w => near_is ⟨_, _, _, _⟩ ⟨_, _, _, _⟩ ⟨_, _, _, _⟩ w h12) ?_ | refine EW.eCall EV.wide_like (id := 4) Try.call8 (fun w => near_is ⟨_, _, _, _⟩ ⟨_, _, _, _⟩ ⟨_, _, _, _⟩ w h23) ?_ | refine EW.eCall EV.wide_like (id := 4) Try.call8 (fun w => near_is ⟨_, _, _, _⟩ ⟨_, _, _, _⟩ ⟨_, _, _, _⟩ w h21) ?_ | refine EW.eCall EV.wide_like (id := 4) Try.call8 (fun w => near_is ⟨_, _, _, _⟩ ⟨_, _, _, _⟩ ⟨_, _, _, _⟩ w h123) ?_ | refine EW.eCall EV.wide_like (id := 4) Try.call8 (fun w => near_is ⟨_, _, _, _⟩ ⟨_, _, _, _⟩ ⟨_, _, _, _⟩ w h123') ?_ | refine EW.eCall EV.wide_like (id := 4) Try.call8 (fun w => near_is ⟨_, _, _, _⟩ ⟨_, _, _, _⟩ ⟨_, _, _, _⟩ w h11) ?_ | refine EW.eCall EV.wide_like (id := 4) Try.call8 (fun w => near_is ⟨_, _, _, _⟩ ⟨_, _, _, _⟩ ⟨_, _, _, _⟩ w (near_none hkr (by first | assumption | omega))) ?_)
  all_goals try (first | refine EW.eLoadA EV.wide_like (id := 4) (d := 28) (k := 4) ?_)
  all_goals try (first | refine EW.eLoadA EV.wide_like (id := 4) (d := 29) (k := 4) ?_)
  all_goals try (first | refine EW.eCall EV.wide_like (id := 4) Try.call8 (fun w => near_is ⟨_, _, _, _⟩ ⟨_, _, _, _⟩ ⟨_, _, _, _⟩ w h12) ?_ | refine EW.eCall EV.wide_like (id := 4) Try.call8 (fun w => near_is ⟨_, _, _, _⟩ ⟨_, _, _, _⟩ ⟨_, _, _, _⟩ w h23) ?_ | refine EW.eCall EV.wide_like (id := 4) Try.call8 (fun w => near_is ⟨_, _, _, _⟩ ⟨_, _, _, _⟩ ⟨_, _, _, _⟩ w h21) ?_ | refine EW.eCall EV.wide_like (id := 4) Try.call8 (fun w => near_is ⟨_, _, _, _⟩ ⟨_, _, _, _⟩ ⟨_, _, _, _⟩ w h123) ?_ | refine EW.eCall EV.wide_like (id := 4) Try.call8 (fun w => near_is ⟨_, _, _, _⟩ ⟨_, _, _, _⟩ ⟨_, _, _, _⟩ w h123') ?_ | refine EW.eCall EV.wide_like (id := 4) Try.call8 (fun w => near_is ⟨_, _, _, _⟩ ⟨_, _, _, _⟩ ⟨_, _, _, _⟩ w h11) ?_ | refine EW.eCall EV.wide_like (id := 4) Try.call8 (fun w => near_is ⟨_, _, _, _⟩ ⟨_, _, _, _⟩ ⟨_, _, _, _⟩ w (near_none hkr (by first | assumption | omega))) ?_)
  all_goals try (first | refine EW.eAlloc EV.wide_like (id := 4) (d := 10) ?_)
  all_goals try (first | refine EW.eAlloc EV.wide_like (id := 4) (d := 11) ?_)
  all_goals try (first | refine EW.eStoreW EV.wide_like (id := 4) (k := 4) ?_ | refine EW.eStore EV.wide_like (id := 4) (k := 4) ?_)
  all_goals try (first | refine EW.eStoreW EV.wide_like (id := 4) (k := 4) ?_ | refine EW.eStore EV.wide_like (id := 4) (k := 4) ?_)
  all_goals try (refine EW.eDraw (id := 4) EW.fok_wide' ?_)
  all_goals try (refine EW.nm ?_)
  all_goals try (first | refine EW.eRegL (id := 5) ?_ | refine EW.eReg (id := 5) ?_)
  all_goals try (first | refine EW.eLoadA EV.wide_like (id := 5) (d := 31) (k := 4) ?_)
  all_goals try (first | refine EW.eLoadA EV.wide_like (id := 5) (d := 32) (k := 4) ?_)
  all_goals try (first | refine EW.eLoadA EV.wide_like (id := 5) (d := 33) (k := 4) ?_)
  all_goals try (first | refine EW.eCall EV.wide_like (id := 5) Try.call8 (fun w => near_is ⟨_, _, _, _⟩ ⟨_, _, _, _⟩ ⟨_, _, _, _⟩ w h12) ?_ | refine EW.eCall EV.wide_like (id := 5) Try.call8 (fun w => near_is ⟨_, _, _, _⟩ ⟨_, _, _, _⟩ ⟨_, _, _, _⟩ w h23) ?_ | refine EW.eCall EV.wide_like (id := 5) Try.call8 (fun w => near_is ⟨_, _, _, _⟩ ⟨_, _, _, _⟩ ⟨_, _, _, _⟩ w h21) ?_ | refine EW.eCall EV.wide_like (id := 5) Try.call8 (fun w => near_is ⟨_, _, _, _⟩ ⟨_, _, _, _⟩ ⟨_, _, _, _⟩ w h123) ?_ | refine EW.eCall EV.wide_like (id := 5) Try.call8 (fun w => near_is ⟨_, _, _, _⟩ ⟨_, _, _, _⟩ ⟨_, _, _, _⟩ w h123') ?_ | refine EW.eCall EV.wide_like (id := 5) Try.call8 (fun w => near_is ⟨_, _, _, _⟩ ⟨_, _, _, _⟩ ⟨_, _, _, _⟩ w h11) ?_ | refine EW.eCall EV.wide_like (id := 5) Try.call8 (fun w => near_is ⟨_, _, _, _⟩ ⟨_, _, _, _⟩ ⟨_, _, _, _⟩ w (near_none hkr (by first | assumption | omega))) ?_)
  all_goals try (first | refine EW.eNeqA EV.wide_like (id := 5) (d := 35) ?_)
  all_goals try (first | refine EW.eMove EV.wide_like (id := 5) (d := 36) ?_)
  all_goals try (refine EW.eGuard (id := 5) (j := 5) (o := ⟨some 37, _, _, _, _, _⟩) ?_ ?_ <;> (intro hb hb'; (try dsimp only at hb'); (try (exfalso; first | omega | with_reducible exact absurd rfl hb'))))
  all_goals try (first | refine EW.eSkipF EV.wide_like (id := 5) (j := 5) (e := 37) ?_ | refine EW.eSkipU EV.wide_like (id := 5) (j := 5) (e := 37) ?_ | refine EW.eLoadA EV.wide_like (id := 5) (d := 37) (k := 4) ?_)
  all_goals try (refine EW.eGuard (id := 5) (j := 5) (o := ⟨some 38, _, _, _, _, _⟩) ?_ ?_ <;> (intro hb hb'; (try dsimp only at hb'); (try (exfalso; first | omega | with_reducible exact absurd rfl hb'))))
  all_goals try (first | refine EW.eSkipF EV.wide_like (id := 5) (j := 5) (e := 38) ?_ | refine EW.eSkipU EV.wide_like (id := 5) (j := 5) (e := 38) ?_ | refine EW.eLoadA EV.wide_like (id := 5) (d := 38) (k := 4) ?_)
  all_goals try (refine EW.eGuard (id := 5) (j := 5) (o := ⟨some 39, _, _, _, _, _⟩) ?_ ?_ <;> (intro hb hb'; (try dsimp only at hb'); (try (exfalso; first | omega | with_reducible exact absurd rfl hb'))))
  all_goals try (first | refine EW.eSkipF EV.wide_like (id := 5) (j := 5) (e := 39) ?_ | refine EW.eSkipU EV.wide_like (id := 5) (j := 5) (e := 39) ?_ | refine EW.eCall EV.wide_like (id := 5) Try.call8 (fun w => near_is ⟨_, _, _, _⟩ ⟨_, _, _, _⟩ ⟨_, _, _, _⟩ w h12) ?_ | refine EW.eCall EV.wide_like (id := 5) Try.call8 (fun w => near_is ⟨_, _, _, _⟩ ⟨_, _, _, _⟩ ⟨_, _, _, _⟩ w h23) ?_ | refine EW.eCall EV.wide_like (id := 5) Try.call8 (fun w => near_is ⟨_, _, _, _⟩ ⟨_, _, _, _⟩ ⟨_, _, _, _⟩ w h21) ?_ | refine EW.eCall EV.wide_like (id := 5) Try.call8 (fun w => near_is ⟨_, _, _, _⟩ ⟨_, _, _, _⟩ ⟨_, _, _, _⟩ w h123) ?_ | refine EW.eCall EV.wide_like (id := 5) Try.call8 (fun w => near_is ⟨_, _, _, _⟩ ⟨_, _, _, _⟩ ⟨_, _, _, _⟩ w h123') ?_ | refine EW.eCall EV.wide_like (id := 5) Try.call8 (fun w => near_is ⟨_, _, _, _⟩ ⟨_, _, _, _⟩ ⟨_, _, _, _⟩ w h11) ?_ | refine EW.eCall EV.wide_like (id := 5) Try.call8 (fun w => near_is ⟨_, _, _, _⟩ ⟨_, _, _, _⟩ ⟨_, _, _, _⟩ w (near_none hkr (by first | assumption | omega))) ?_)
  all_goals try (refine EW.eGuard (id := 5) (j := 5) (o := ⟨some 40, _, _, _, _, _⟩) ?_ ?_ <;> (intro hb hb'; (try dsimp only at hb'); (try (exfalso; first | omega | with_reducible exact absurd rfl hb'))))
  all_goals try (first | refine EW.eSkipF EV.wide_like (id := 5) (j := 5) (e := 40) ?_ | refine EW.eSkipU EV.wide_like (id := 5) (j := 5) (e := 40) ?_ | refine EW.eLoadA EV.wide_like (id := 5) (d := 40) (k := 4) ?_)
  all_goals try (refine EW.eGuard (id := 5) (j := 5) (o := ⟨some 41, _, _, _, _, _⟩) ?_ ?_ <;> (intro hb hb'; (try dsimp only at hb'); (try (exfalso; first | omega | with_reducible exact absurd rfl hb'))))
  all_goals try (first | refine EW.eSkipF EV.wide_like (id := 5) (j := 5) (e := 41) ?_ | refine EW.eSkipU EV.wide_like (id := 5) (j := 5) (e := 41) ?_ | refine EW.eLoadA EV.wide_like (id := 5) (d := 41) (k := 4) ?_)
  all_goals try (refine EW.eGuard (id := 5) (j := 5) (o := ⟨some 42, _, _, _, _, _⟩) ?_ ?_ <;> (intro hb hb'; (try dsimp only at hb'); (try (exfalso; first | omega | with_reducible exact absurd rfl hb'))))
  all_goals try (first | refine EW.eSkipF EV.wide_like (id := 5) (j := 5) (e := 42) ?_ | refine EW.eSkipU EV.wide_like (id := 5) (j := 5) (e := 42) ?_ | refine EW.eCall EV.wide_like (id := 5) Try.call8 (fun w => near_is ⟨_, _, _, _⟩ ⟨_, _, _, _⟩ ⟨_, _, _, _⟩ w h12) ?_ | refine EW.eCall EV.wide_like (id := 5) Try.call8 (fun w => near_is ⟨_, _, _, _⟩ ⟨_, _, _, _⟩ ⟨_, _, _, _⟩ w h23) ?_ | refine EW.eCall EV.wide_like (id := 5) Try.call8 (fun w => near_is ⟨_, _, _, _⟩ ⟨_, _, _, _⟩ ⟨_, _, _, _⟩ w h21) ?_ | refine EW.eCall EV.wide_like (id := 5) Try.call8 (fun w => near_is ⟨_, _, _, _⟩ ⟨_, _, _, _⟩ ⟨_, _, _, _⟩ w h123) ?_ | refine EW.eCall EV.wide_like (id := 5) Try.call8 (fun w => near_is ⟨_, _, _, _⟩ ⟨_, _, _, _⟩ ⟨_, _, _, _⟩ w h123') ?_ | refine EW.eCall EV.wide_like (id := 5) Try.call8 (fun w => near_is ⟨_, _, _, _⟩ ⟨_, _, _, _⟩ ⟨_, _, _, _⟩ w h11) ?_ | refine EW.eCall EV.wide_like (id := 5) Try.call8 (fun w => near_is ⟨_, _, _, _⟩ ⟨_, _, _, _⟩ ⟨_, _, _, _⟩ w (near_none hkr (by first | assumption | omega))) ?_)
  all_goals try (refine EW.eGuard (id := 5) (j := 5) (o := ⟨some 43, _, _, _, _, _⟩) ?_ ?_ <;> (intro hb hb'; (try dsimp only at hb'); (try (exfalso; first | omega | with_reducible exact absurd rfl hb'))))
  all_goals try (first | refine EW.eSkipF EV.wide_like (id := 5) (j := 5) (e := 43) ?_ | refine EW.eSkipU EV.wide_like (id := 5) (j := 5) (e := 43) ?_ | refine EW.eNeqA EV.wide_like (id := 5) (d := 43) ?_)
  all_goals try (refine EW.eChoice (id := 5) (d := some 44) ?_ ?_ <;> (intro hb hb'; (try dsimp only at hb'); (try (exfalso; first | omega | with_reducible exact absurd rfl hb'))))
  all_goals try (first | refine EW.ePickT EV.wide_like (id := 5) (d := 44) ?_ | refine EW.ePickF EV.wide_like (id := 5) (d := 44) ?_)
  all_goals try (first | refine EW.eMove EV.wide_like (id := 5) (d := 45) ?_)
  all_goals try (refine EW.eGuard (id := 5) (j := 14) (o := ⟨some 46, _, _, _, _, _⟩) ?_ ?_ <;> (intro hb hb'; (try dsimp only at hb'); (try (exfalso; first | omega | with_reducible exact absurd rfl hb'))))
  all_goals try (first | refine EW.eSkipF EV.wide_like (id := 5) (j := 14) (e := 46) ?_ | refine EW.eSkipU EV.wide_like (id := 5) (j := 14) (e := 46) ?_ | refine EW.eLoadA EV.wide_like (id := 5) (d := 46) (k := 4) ?_)
  all_goals try (refine EW.eGuard (id := 5) (j := 14) (o := ⟨some 47, _, _, _, _, _⟩) ?_ ?_ <;> (intro hb hb'; (try dsimp only at hb'); (try (exfalso; first | omega | with_reducible exact absurd rfl hb'))))
  all_goals try (first | refine EW.eSkipF EV.wide_like (id := 5) (j := 14) (e := 47) ?_ | refine EW.eSkipU EV.wide_like (id := 5) (j := 14) (e := 47) ?_ | refine EW.eLoadA EV.wide_like (id := 5) (d := 47) (k := 4) ?_)
  all_goals try (refine EW.eGuard (id := 5) (j := 14) (o := ⟨some 48, _, _, _, _, _⟩) ?_ ?_ <;> (intro hb hb'; (try dsimp only at hb'); (try (exfalso; first | omega | with_reducible exact absurd rfl hb'))))
  all_goals try (first | refine EW.eSkipF EV.wide_like (id := 5) (j := 14) (e := 48) ?_ | refine EW.eSkipU EV.wide_like (id := 5) (j := 14) (e := 48) ?_ | refine EW.eCall EV.wide_like (id := 5) Try.call8 (fun w => near_is ⟨_, _, _, _⟩ ⟨_, _, _, _⟩ ⟨_, _, _, _⟩ w h12) ?_ | refine EW.eCall EV.wide_like (id := 5) Try.call8 (fun w => near_is ⟨_, _, _, _⟩ ⟨_, _, _, _⟩ ⟨_, _, _, _⟩ w h23) ?_ | refine EW.eCall EV.wide_like (id := 5) Try.call8 (fun w => near_is ⟨_, _, _, _⟩ ⟨_, _, _, _⟩ ⟨_, _, _, _⟩ w h21) ?_ | refine EW.eCall EV.wide_like (id := 5) Try.call8 (fun w => near_is ⟨_, _, _, _⟩ ⟨_, _, _, _⟩ ⟨_, _, _, _⟩ w h123) ?_ | refine EW.eCall EV.wide_like (id := 5) Try.call8 (fun w => near_is ⟨_, _, _, _⟩ ⟨_, _, _, _⟩ ⟨_, _, _, _⟩ w h123') ?_ | refine EW.eCall EV.wide_like (id := 5) Try.call8 (fun w => near_is ⟨_, _, _, _⟩ ⟨_, _, _, _⟩ ⟨_, _, _, _⟩ w h11) ?_ | refine EW.eCall EV.wide_like (id := 5) Try.call8 (fun w => near_is ⟨_, _, _, _⟩ ⟨_, _, _, _⟩ ⟨_, _, _, _⟩ w (near_none hkr (by first | assumption | omega))) ?_)
  all_goals try (refine EW.eGuard (id := 5) (j := 14) (o := ⟨some 49, _, _, _, _, _⟩) ?_ ?_ <;> (intro hb hb'; (try dsimp only at hb'); (try (exfalso; first | omega | with_reducible exact absurd rfl hb'))))
  all_goals try (first | refine EW.eSkipF EV.wide_like (id := 5) (j := 14) (e := 49) ?_ | refine EW.eSkipU EV.wide_like (id := 5) (j := 14) (e := 49) ?_ | refine EW.eLoadA EV.wide_like (id := 5) (d := 49) (k := 4) ?_)
  all_goals try (refine EW.eGuard (id := 5) (j := 14) (o := ⟨some 50, _, _, _, _, _⟩) ?_ ?_ <;> (intro hb hb'; (try dsimp only at hb'); (try (exfalso; first | omega | with_reducible exact absurd rfl hb'))))
  all_goals try (first | refine EW.eSkipF EV.wide_like (id := 5) (j := 14) (e := 50) ?_ | refine EW.eSkipU EV.wide_like (id := 5) (j := 14) (e := 50) ?_ | refine EW.eNeqA EV.wide_like (id := 5) (d := 50) ?_)
  all_goals try (refine EW.eChoice (id := 5) (d := some 51) ?_ ?_ <;> (intro hb hb'; (try dsimp only at hb'); (try (exfalso; first | omega | with_reducible exact absurd rfl hb'))))
  all_goals try (first | refine EW.ePickT EV.wide_like (id := 5) (d := 51) ?_ | refine EW.ePickF EV.wide_like (id := 5) (d := 51) ?_)
  all_goals try (first | refine EW.eMove EV.wide_like (id := 5) (d := 52) ?_)
  all_goals try (refine EW.eGuard (id := 5) (j := 21) (o := ⟨some 53, _, _, _, _, _⟩) ?_ ?_ <;> (intro hb hb'; (try dsimp only at hb'); (try (exfalso; first | omega | with_reducible exact absurd rfl hb'))))
  all_goals try (first | refine EW.eSkipF EV.wide_like (id := 5) (j := 21) (e := 53) ?_ | refine EW.eSkipU EV.wide_like (id := 5) (j := 21) (e := 53) ?_ | refine EW.eLoadA EV.wide_like (id := 5) (d := 53) (k := 4) ?_)
  all_goals try (refine EW.eGuard (id := 5) (j := 21) (o := ⟨some 54, _, _, _, _, _⟩) ?_ ?_ <;> (intro hb hb'; (try dsimp only at hb'); (try (exfalso; first | omega | with_reducible exact absurd rfl hb'))))
  all_goals try (first | refine EW.eSkipF EV.wide_like (id := 5) (j := 21) (e := 54) ?_ | refine EW.eSkipU EV.wide_like (id := 5) (j := 21) (e := 54) ?_ | refine EW.eLoadA EV.wide_like (id := 5) (d := 54) (k := 4) ?_)
  all_goals try (refine EW.eGuard (id := 5) (j := 21) (o := ⟨some 55, _, _, _, _, _⟩) ?_ ?_ <;> (intro hb hb'; (try dsimp only at hb'); (try (exfalso; first | omega | with_reducible exact absurd rfl hb'))))
  all_goals try (first | refine EW.eSkipF EV.wide_like (id := 5) (j := 21) (e := 55) ?_ | refine EW.eSkipU EV.wide_like (id := 5) (j := 21) (e := 55) ?_ | refine EW.eCall EV.wide_like (id := 5) Try.call9 (fun w => cmp_is ⟨_, _, _, _⟩ ⟨_, _, _, _⟩ _ w hcr) ?_ | refine EW.eCall EV.wide_like (id := 5) Try.call9 (fun w => cmp_is ⟨_, _, _, _⟩ ⟨_, _, _, _⟩ _ w hcr') ?_ | refine EW.eCall EV.wide_like (id := 5) Try.call9 (fun w => cmp_is (l.getD ((j : Int) - 1).toNat Px.zero) (least l) _ w (ncmp_is l ((j : Int) - 1).toNat (by omega))) ?_)
  all_goals try (refine EW.eGuard (id := 5) (j := 21) (o := ⟨some 56, _, _, _, _, _⟩) ?_ ?_ <;> (intro hb hb'; (try dsimp only at hb'); (try (exfalso; first | omega | with_reducible exact absurd rfl hb'))))
  all_goals try (first | refine EW.eSkipF EV.wide_like (id := 5) (j := 21) (e := 56) ?_ | refine EW.eSkipU EV.wide_like (id := 5) (j := 21) (e := 56) ?_ | refine EW.eLoadA EV.wide_like (id := 5) (d := 56) (k := 4) ?_)
  all_goals try (refine EW.eGuard (id := 5) (j := 21) (o := ⟨some 57, _, _, _, _, _⟩) ?_ ?_ <;> (intro hb hb'; (try dsimp only at hb'); (try (exfalso; first | omega | with_reducible exact absurd rfl hb'))))
  all_goals try (first | refine EW.eSkipF EV.wide_like (id := 5) (j := 21) (e := 57) ?_ | refine EW.eSkipU EV.wide_like (id := 5) (j := 21) (e := 57) ?_ | refine EW.eLoadA EV.wide_like (id := 5) (d := 57) (k := 4) ?_)
  all_goals try (refine EW.eGuard (id := 5) (j := 21) (o := ⟨some 58, _, _, _, _, _⟩) ?_ ?_ <;> (intro hb hb'; (try dsimp only at hb'); (try (exfalso; first | omega | with_reducible exact absurd rfl hb'))))
  all_goals try (first | refine EW.eSkipF EV.wide_like (id := 5) (j := 21) (e := 58) ?_ | refine EW.eSkipU EV.wide_like (id := 5) (j := 21) (e := 58) ?_ | refine EW.eCall EV.wide_like (id := 5) Try.call9 (fun w => cmp_is ⟨_, _, _, _⟩ ⟨_, _, _, _⟩ _ w hcr) ?_ | refine EW.eCall EV.wide_like (id := 5) Try.call9 (fun w => cmp_is ⟨_, _, _, _⟩ ⟨_, _, _, _⟩ _ w hcr') ?_ | refine EW.eCall EV.wide_like (id := 5) Try.call9 (fun w => cmp_is (l.getD ((j : Int) - 1).toNat Px.zero) (least l) _ w (ncmp_is l ((j : Int) - 1).toNat (by omega))) ?_)
  all_goals try (refine EW.eGuard (id := 5) (j := 21) (o := ⟨some 59, _, _, _, _, _⟩) ?_ ?_ <;> (intro hb hb'; (try dsimp only at hb'); (try (exfalso; first | omega | with_reducible exact absurd rfl hb'))))
  all_goals try (first | refine EW.eSkipF EV.wide_like (id := 5) (j := 21) (e := 59) ?_ | refine EW.eSkipU EV.wide_like (id := 5) (j := 21) (e := 59) ?_ | refine EW.eNeg EV.wide_like (id := 5) (d := 59) ?_)
  all_goals try (refine EW.eGuard (id := 5) (j := 21) (o := ⟨some 60, _, _, _, _, _⟩) ?_ ?_ <;> (intro hb hb'; (try dsimp only at hb'); (try (exfalso; first | omega | with_reducible exact absurd rfl hb'))))
  all_goals try (first | refine EW.eSkipF EV.wide_like (id := 5) (j := 21) (e := 60) ?_ | refine EW.eSkipU EV.wide_like (id := 5) (j := 21) (e := 60) ?_ | refine EW.eNeq EV.wide_like (id := 5) (d := 60) ?_)
  all_goals try (refine EW.eChoice (id := 5) (d := some 61) ?_ ?_ <;> (intro hb hb'; (try dsimp only at hb'); (try (exfalso; first | omega | with_reducible exact absurd rfl hb'))))
  all_goals try (first | refine EW.ePickT EV.wide_like (id := 5) (d := 61) ?_ | refine EW.ePickF EV.wide_like (id := 5) (d := 61) ?_)
  all_goals try (first | refine EW.eMove EV.wide_like (id := 5) (d := 62) ?_)
  all_goals try (refine EW.eGuard (id := 5) (j := 31) (o := ⟨some 63, _, _, _, _, _⟩) ?_ ?_ <;> (intro hb hb'; (try dsimp only at hb'); (try (exfalso; first | omega | with_reducible exact absurd rfl hb'))))
  all_goals try (first | refine EW.eSkipF EV.wide_like (id := 5) (j := 31) (e := 63) ?_ | refine EW.eSkipU EV.wide_like (id := 5) (j := 31) (e := 63) ?_ | refine EW.eLoadA EV.wide_like (id := 5) (d := 63) (k := 4) ?_)
  all_goals try (refine EW.eGuard (id := 5) (j := 31) (o := ⟨some 64, _, _, _, _, _⟩) ?_ ?_ <;> (intro hb hb'; (try dsimp only at hb'); (try (exfalso; first | omega | with_reducible exact absurd rfl hb'))))
  all_goals try (first | refine EW.eSkipF EV.wide_like (id := 5) (j := 31) (e := 64) ?_ | refine EW.eSkipU EV.wide_like (id := 5) (j := 31) (e := 64) ?_ | refine EW.eLoadA EV.wide_like (id := 5) (d := 64) (k := 4) ?_)
  all_goals try (refine EW.eGuard (id := 5) (j := 31) (o := ⟨some 65, _, _, _, _, _⟩) ?_ ?_ <;> (intro hb hb'; (try dsimp only at hb'); (try (exfalso; first | omega | with_reducible exact absurd rfl hb'))))
  all_goals try (first | refine EW.eSkipF EV.wide_like (id := 5) (j := 31) (e := 65) ?_ | refine EW.eSkipU EV.wide_like (id := 5) (j := 31) (e := 65) ?_ | refine EW.eCall EV.wide_like (id := 5) Try.call9 (fun w => cmp_is ⟨_, _, _, _⟩ ⟨_, _, _, _⟩ _ w hcr) ?_ | refine EW.eCall EV.wide_like (id := 5) Try.call9 (fun w => cmp_is ⟨_, _, _, _⟩ ⟨_, _, _, _⟩ _ w hcr') ?_ | refine EW.eCall EV.wide_like (id := 5) Try.call9 (fun w => cmp_is (l.getD ((j : Int) - 1).toNat Px.zero) (least l) _ w (ncmp_is l ((j : Int) - 1).toNat (by omega))) ?_)
  all_goals try (refine EW.eGuard (id := 5) (j := 31) (o := ⟨some 66, _, _, _, _, _⟩) ?_ ?_ <;> (intro hb hb'; (try dsimp only at hb'); (try (exfalso; first | omega | with_reducible exact absurd rfl hb'))))
  all_goals try (first | refine EW.eSkipF EV.wide_like (id := 5) (j := 31) (e := 66) ?_ | refine EW.eSkipU EV.wide_like (id := 5) (j := 31) (e := 66) ?_ | refine EW.eEql EV.wide_like (id := 5) (d := 66) ?_)
  all_goals try (refine EW.eGuard (id := 5) (j := 31) (o := ⟨some 67, _, _, _, _, _⟩) ?_ ?_ <;> (intro hb hb'; (try dsimp only at hb'); (try (exfalso; first | omega | with_reducible exact absurd rfl hb'))))
  all_goals try (first | refine EW.eSkipF EV.wide_like (id := 5) (j := 31) (e := 67) ?_ | refine EW.eSkipU EV.wide_like (id := 5) (j := 31) (e := 67) ?_ | refine EW.eLoadA EV.wide_like (id := 5) (d := 67) (k := 4) ?_)
  all_goals try (refine EW.eGuard (id := 5) (j := 31) (o := ⟨some 68, _, _, _, _, _⟩) ?_ ?_ <;> (intro hb hb'; (try dsimp only at hb'); (try (exfalso; first | omega | with_reducible exact absurd rfl hb'))))
  all_goals try (first | refine EW.eSkipF EV.wide_like (id := 5) (j := 31) (e := 68) ?_ | refine EW.eSkipU EV.wide_like (id := 5) (j := 31) (e := 68) ?_ | refine EW.eLoadA EV.wide_like (id := 5) (d := 68) (k := 4) ?_)
  all_goals try (refine EW.eGuard (id := 5) (j := 31) (o := ⟨some 69, _, _, _, _, _⟩) ?_ ?_ <;> (intro hb hb'; (try dsimp only at hb'); (try (exfalso; first | omega | with_reducible exact absurd rfl hb'))))
  all_goals try (first | refine EW.eSkipF EV.wide_like (id := 5) (j := 31) (e := 69) ?_ | refine EW.eSkipU EV.wide_like (id := 5) (j := 31) (e := 69) ?_ | refine EW.eEqlA EV.wide_like (id := 5) (d := 69) ?_)
  all_goals try (refine EW.eGuard (id := 5) (j := 31) (o := ⟨some 70, _, _, _, _, _⟩) ?_ ?_ <;> (intro hb hb'; (try dsimp only at hb'); (try (exfalso; first | omega | with_reducible exact absurd rfl hb'))))
  all_goals try (first | refine EW.eSkipF EV.wide_like (id := 5) (j := 31) (e := 70) ?_ | refine EW.eSkipU EV.wide_like (id := 5) (j := 31) (e := 70) ?_ | refine EW.eNeqB EV.wide_like (id := 5) (d := 70) ?_)
  all_goals try (refine EW.eChoice (id := 5) (d := some 71) ?_ ?_ <;> (intro hb hb'; (try dsimp only at hb'); (try (exfalso; first | omega | with_reducible exact absurd rfl hb'))))
  all_goals try (first | refine EW.ePickT EV.wide_like (id := 5) (d := 71) ?_ | refine EW.ePickF EV.wide_like (id := 5) (d := 71) ?_)
  all_goals try (refine EW.eDraw (id := 5) EW.fok_wide' ?_)
  all_goals try (refine EW.nm ?_)
  all_goals try (first | refine EW.eYes (x := Operand.tmp 71) ?_ | refine EW.eNo (x := Operand.tmp 71) ?_ | (refine EW.eCond (x := Operand.tmp 71) ?_ ?_ <;> (intro hb hb'; (try dsimp only at hb'); (try (exfalso; first | omega | with_reducible exact absurd rfl hb')))))
  all_goals try (refine EW.nm ?_)
  all_goals try (first | refine EW.eRegL (id := 6) ?_ | refine EW.eReg (id := 6) ?_)
  all_goals try (first | refine EW.eAssign EV.wide_like (id := 6) (d := 8) ?_)
  all_goals try (refine EW.eEnd (id := 6) ?_)
  all_goals try (refine EW.nm ?_)
  all_goals try (first | refine EW.eRegL (id := 7) ?_ | refine EW.eReg (id := 7) ?_)
  all_goals try (first | refine EW.eLoadA EV.wide_like (id := 7) (d := 72) (k := 4) ?_)
  all_goals try (first | refine EW.eCall EV.wide_like (id := 7) Try.call10 (fun w => pcheck_is ⟨_, _, _, _⟩ kr w hkr) ?_)
  all_goals try (first | refine EW.eEql EV.wide_like (id := 7) (d := 74) ?_)
  all_goals try (first | refine EW.eMove EV.wide_like (id := 7) (d := 75) ?_)
  all_goals try (refine EW.eGuard (id := 7) (j := 3) (o := ⟨some 76, _, _, _, _, _⟩) ?_ ?_ <;> (intro hb hb'; (try dsimp only at hb'); (try (exfalso; first | omega | with_reducible exact absurd rfl hb'))))
  all_goals try (first | refine EW.eSkipT EV.wide_like (id := 7) (j := 3) (e := 76) ?_ | refine EW.eSkipU EV.wide_like (id := 7) (j := 3) (e := 76) ?_ | refine EW.eLoadA EV.wide_like (id := 7) (d := 76) (k := 4) ?_)
  all_goals try (refine EW.eGuard (id := 7) (j := 3) (o := ⟨some 77, _, _, _, _, _⟩) ?_ ?_ <;> (intro hb hb'; (try dsimp only at hb'); (try (exfalso; first | omega | with_reducible exact absurd rfl hb'))))
  all_goals try (first | refine EW.eSkipT EV.wide_like (id := 7) (j := 3) (e := 77) ?_ | refine EW.eSkipU EV.wide_like (id := 7) (j := 3) (e := 77) ?_ | refine EW.eCall EV.wide_like (id := 7) Try.call11 (fun w => pempty w) ?_)
  all_goals try (refine EW.eGuard (id := 7) (j := 3) (o := ⟨some 78, _, _, _, _, _⟩) ?_ ?_ <;> (intro hb hb'; (try dsimp only at hb'); (try (exfalso; first | omega | with_reducible exact absurd rfl hb'))))
  all_goals try (first | refine EW.eSkipT EV.wide_like (id := 7) (j := 3) (e := 78) ?_ | refine EW.eSkipU EV.wide_like (id := 7) (j := 3) (e := 78) ?_ | refine EW.eCall EV.wide_like (id := 7) Try.call8 (fun w => near_is ⟨_, _, _, _⟩ ⟨_, _, _, _⟩ ⟨_, _, _, _⟩ w h12) ?_ | refine EW.eCall EV.wide_like (id := 7) Try.call8 (fun w => near_is ⟨_, _, _, _⟩ ⟨_, _, _, _⟩ ⟨_, _, _, _⟩ w h23) ?_ | refine EW.eCall EV.wide_like (id := 7) Try.call8 (fun w => near_is ⟨_, _, _, _⟩ ⟨_, _, _, _⟩ ⟨_, _, _, _⟩ w h21) ?_ | refine EW.eCall EV.wide_like (id := 7) Try.call8 (fun w => near_is ⟨_, _, _, _⟩ ⟨_, _, _, _⟩ ⟨_, _, _, _⟩ w h123) ?_ | refine EW.eCall EV.wide_like (id := 7) Try.call8 (fun w => near_is ⟨_, _, _, _⟩ ⟨_, _, _, _⟩ ⟨_, _, _, _⟩ w h123') ?_ | refine EW.eCall EV.wide_like (id := 7) Try.call8 (fun w => near_is ⟨_, _, _, _⟩ ⟨_, _, _, _⟩ ⟨_, _, _, _⟩ w h11) ?_ | refine EW.eCall EV.wide_like (id := 7) Try.call8 (fun w => near_is ⟨_, _, _, _⟩ ⟨_, _, _, _⟩ ⟨_, _, _, _⟩ w (near_none hkr (by first | assumption | omega))) ?_)
  all_goals try (refine EW.eGuard (id := 7) (j := 3) (o := ⟨some 79, _, _, _, _, _⟩) ?_ ?_ <;> (intro hb hb'; (try dsimp only at hb'); (try (exfalso; first | omega | with_reducible exact absurd rfl hb'))))
  all_goals try (first | refine EW.eSkipT EV.wide_like (id := 7) (j := 3) (e := 79) ?_ | refine EW.eSkipU EV.wide_like (id := 7) (j := 3) (e := 79) ?_ | refine EW.eLoadA EV.wide_like (id := 7) (d := 79) (k := 4) ?_)
  all_goals try (refine EW.eGuard (id := 7) (j := 3) (o := ⟨some 80, _, _, _, _, _⟩) ?_ ?_ <;> (intro hb hb'; (try dsimp only at hb'); (try (exfalso; first | omega | with_reducible exact absurd rfl hb'))))
  all_goals try (first | refine EW.eSkipT EV.wide_like (id := 7) (j := 3) (e := 80) ?_ | refine EW.eSkipU EV.wide_like (id := 7) (j := 3) (e := 80) ?_ | refine EW.eNeqA EV.wide_like (id := 7) (d := 80) ?_)
  all_goals try (refine EW.eChoice (id := 7) (d := some 81) ?_ ?_ <;> (intro hb hb'; (try dsimp only at hb'); (try (exfalso; first | omega | with_reducible exact absurd rfl hb'))))
  all_goals try (first | refine EW.ePickT EV.wide_like (id := 7) (d := 81) ?_ | refine EW.ePickF EV.wide_like (id := 7) (d := 81) ?_)
  all_goals try (refine EW.eDraw (id := 7) EW.fok_wide' ?_)
  all_goals try (refine EW.nm ?_)
  all_goals try (first | refine EW.eYes (x := Operand.tmp 81) ?_ | refine EW.eNo (x := Operand.tmp 81) ?_ | (refine EW.eCond (x := Operand.tmp 81) ?_ ?_ <;> (intro hb hb'; (try dsimp only at hb'); (try (exfalso; first | omega | with_reducible exact absurd rfl hb')))))
  all_goals try (refine EW.nm ?_)
  all_goals try (first | refine EW.eRegL (id := 8) ?_ | refine EW.eReg (id := 8) ?_)
  all_goals try (first | refine EW.eAssign EV.wide_like (id := 8) (d := 8) ?_)
  all_goals try (refine EW.eEnd (id := 8) ?_)
  all_goals try (refine EW.nm ?_)
  all_goals try (first | refine EW.eRegL (id := 9) ?_ | refine EW.eReg (id := 9) ?_)
  all_goals try (first | refine EW.eMove EV.wide_like (id := 9) (d := 82) ?_)
  all_goals try (first | refine EW.eCallN [0] EV.wide_like (id := 9) Try.call12 (least_ctS o l k (by omega)) ?_ | refine EW.eCallN [75] EV.wide_like (id := 9) Try.call12 (least_dblG true l (by omega)) ?_)
  all_goals try (first | refine EW.eAlloc EV.wide_like (id := 9) (d := 12) ?_)
  all_goals try (first | refine EW.eStoreW EV.wide_like (id := 9) (k := 4) ?_ | refine EW.eStore EV.wide_like (id := 9) (k := 4) ?_)
  all_goals try (refine EW.eEnd (id := 9) ?_)
  all_goals try (refine EW.nm ?_)
  all_goals try (first | refine EW.eRegL (id := 10) ?_ | refine EW.eReg (id := 10) ?_)
  all_goals try (first | refine EW.eAssign EV.wide_like (id := 10) (d := 13) ?_)
  all_goals try (refine EW.eEnd (id := 10) ?_)
  all_goals try (refine EW.nm ?_)
  all_goals try (first | refine EW.eRegL (id := 11) ?_ | refine EW.eReg (id := 11) ?_)
  all_goals try (first | refine EW.eMove EV.wide_like (id := 11) (d := 84) ?_)
  all_goals try (first | refine EW.eLenS EV.wide_like (id := 11) (d := 85) ?_ | refine EW.eLenG EV.wide_like (id := 11) (d := 85) ?_ | refine EW.eLenN EV.wide_like (id := 11) (d := 85) ?_)
  all_goals try (first | refine EW.eEql EV.wide_like (id := 11) (d := 86) ?_)
  all_goals try (first | refine EW.eMove EV.wide_like (id := 11) (d := 87) ?_)
  all_goals try (refine EW.eGuard (id := 11) (j := 3) (o := ⟨some 88, _, _, _, _, _⟩) ?_ ?_ <;> (intro hb hb'; (try dsimp only at hb'); (try (exfalso; first | omega | with_reducible exact absurd rfl hb'))))
  all_goals try (first | refine EW.eSkipT EV.wide_like (id := 11) (j := 3) (e := 88) ?_ | refine EW.eSkipU EV.wide_like (id := 11) (j := 3) (e := 88) ?_ | refine EW.eLoadA EV.wide_like (id := 11) (d := 88) (k := 4) ?_)
  all_goals try (refine EW.eGuard (id := 11) (j := 3) (o := ⟨some 89, _, _, _, _, _⟩) ?_ ?_ <;> (intro hb hb'; (try dsimp only at hb'); (try (exfalso; first | omega | with_reducible exact absurd rfl hb'))))
  all_goals try (first | refine EW.eSkipT EV.wide_like (id := 11) (j := 3) (e := 89) ?_ | refine EW.eSkipU EV.wide_like (id := 11) (j := 3) (e := 89) ?_ | refine EW.eCall EV.wide_like (id := 11) Try.call11 (fun w => pempty w) ?_)
  all_goals try (refine EW.eGuard (id := 11) (j := 3) (o := ⟨some 90, _, _, _, _, _⟩) ?_ ?_ <;> (intro hb hb'; (try dsimp only at hb'); (try (exfalso; first | omega | with_reducible exact absurd rfl hb'))))
  all_goals try (first | refine EW.eSkipT EV.wide_like (id := 11) (j := 3) (e := 90) ?_ | refine EW.eSkipU EV.wide_like (id := 11) (j := 3) (e := 90) ?_ | refine EW.eEqlA EV.wide_like (id := 11) (d := 90) ?_)
  all_goals try (refine EW.eChoice (id := 11) (d := some 91) ?_ ?_ <;> (intro hb hb'; (try dsimp only at hb'); (try (exfalso; first | omega | with_reducible exact absurd rfl hb'))))
  all_goals try (first | refine EW.ePickT EV.wide_like (id := 11) (d := 91) ?_ | refine EW.ePickF EV.wide_like (id := 11) (d := 91) ?_)
  all_goals try (first | refine EW.eAssign EV.wide_like (id := 11) (d := 14) ?_)
  all_goals try (refine EW.eDraw (id := 11) EW.fok_wide' ?_)
  all_goals try (refine EW.nm ?_)
  all_goals try (first | refine EW.eRegL (id := 12) ?_ | refine EW.eReg (id := 12) ?_)
  all_goals try (first | refine EW.eMove EV.wide_like (id := 12) (d := 92) ?_)
  all_goals try (first | refine EW.eLenS EV.wide_like (id := 12) (d := 93) ?_ | refine EW.eLenG EV.wide_like (id := 12) (d := 93) ?_ | refine EW.eLenN EV.wide_like (id := 12) (d := 93) ?_)
  all_goals try (first | refine EW.eSub EV.wide_like (id := 12) (d := 94) ?_)
  all_goals try (first | refine EW.eAssign EV.wide_like (id := 12) (d := 15) ?_)
  all_goals try (refine EW.eEnd (id := 12) ?_)
  all_goals try (refine EW.nm ?_)
  all_goals first | (fail_if_success (refine EW.eUnroll 1 ?_)) | (refine EW.eNilG 13 75 4 ?_)
  all_goals first | (fail_if_success (refine EW.eUnroll 1 ?_)) | (refine EW.eLoopC [8, 13, 14, 15, 95, 96, 97, 98, 99, 100, 101, 102, 103, 104, 105, 106, 107, 108, 109, 110, 111, 112, 113, 114, 115, 116, 117, 118, 119, 120, 121, 122, 123, 124, 125] 75 (fun j : {j : Nat // j ≤ l.length} => [(.t 15, .v (.c (.v (.int .i64 ((j.1 : Int) - 1))))), (.t 13, .v (.c (.g 75 0 (2 * (l.length - j.1)) (2 * (l.length - j.1)) 4))), (.l 75, .l true), (.b 75, .b (.w true (pvs (dbl l j.1)))), (.t 14, .v (.c (.v (.bool (fnd l j.1)))))]) (fun j => j.1) (⟨l.length, Nat.le_refl _⟩) (by ((repeat (first | exact EW.subW.nil | refine EW.subW.cons rfl ?_ | refine EW.subW.conv rfl (by first | (first | exact EW.kvB (fnd_stay (by assumption) (by omega) (by omega)) | exact EW.kvB (fnd_go (by assumption) (by omega) (by omega)) | exact EW.kvB (fnd_first (by omega)) | exact EW.kvB (fnd_no (by omega)) | exact EW.kvW (pvs_dbl (by omega) (by omega))) | exact ((by first | exact EW.kvI (by first | omega | (dsimp only; omega)) | exact EW.kvG (by first | omega | (simp only [List.length_cons, List.length_nil, List.length_append, List.length_map, List.length_set, List.length_replicate, List.length_take, List.length_drop, List.length_range, EV.putL_length, Nat.reduceAdd, Nat.reduceMul, Nat.reduceSub]; omega)) (by first | omega | (simp only [List.length_cons, List.length_nil, List.length_append, List.length_map, List.length_set, List.length_replicate, List.length_take, List.length_drop, List.length_range, EV.putL_length, Nat.reduceAdd, Nat.reduceMul, Nat.reduceSub]; omega)) | exact EW.kvB (by simp [*]) | exact EW.kvW (by (first | rfl | simp)) | rfl))) ?_)); (first | done | fail))) (by ((first | exact EW.ClD.nl (by (((repeat (first | exact EW.NL.emp | (refine EW.NL.upd ?_ rfl) | refine EW.NL.drp ?_ | refine EW.NL.hp ?_ | refine EW.NL.argS ?_ | refine EW.NL.mix ?_)); (first | done | fail)))) | exact EW.ClD.nm (by ((repeat (first | exact EW.NM.emp | (refine EW.NM.upd ?_ rfl) | refine EW.NM.drp ?_)); (first | done | fail)))))) (fun _ => rfl) (by ((first | (intro j n hn; cases hn; (first | done | fail)) | (intro n hn; cases hn; (first | done | fail)) | (intro j n hn; (repeat (first | (rcases List.mem_cons.1 hn with rfl | hn; (focus exact ⟨rfl, rfl⟩)) | (cases hn; (first | done | fail))))) | (intro n hn; (repeat (first | (rcases List.mem_cons.1 hn with rfl | hn; (focus exact ⟨rfl, rfl⟩)) | (cases hn; (first | done | fail)))))))) ?_; rintro hcl13 ⟨j, hj⟩; (try dsimp only))
  all_goals try (refine EW.nm ?_)
  all_goals try (first | refine EW.eRegL (id := 13) ?_ | refine EW.eReg (id := 13) ?_)
  all_goals try (first | refine EW.eMove EV.wide_like (id := 13) (d := 95) ?_)
  all_goals try (first | refine EW.eGeq EV.wide_like (id := 13) (d := 96) ?_)
  all_goals try (refine EW.eEnd (id := 13) ?_)
  all_goals try (refine EW.nm ?_)
  all_goals try (first | refine EW.eYes (x := Operand.tmp 96) ?_ | refine EW.eNo (x := Operand.tmp 96) ?_ | (refine EW.eCond (x := Operand.tmp 96) ?_ ?_ <;> (intro hb hb'; (try dsimp only at hb'); (try (exfalso; first | omega | with_reducible exact absurd rfl hb')))))
  all_goals try (refine EW.nm ?_)
  all_goals try (first | refine EW.eRegL (id := 15) ?_ | refine EW.eReg (id := 15) ?_)
  all_goals try (first | refine EW.eMove EV.wide_like (id := 15) (d := 99) ?_)
  all_goals try (first | refine EW.eMove EV.wide_like (id := 15) (d := 100) ?_)
  all_goals try (first | refine EW.eMove EV.wide_like (id := 15) (d := 101) ?_)
  all_goals try (first | refine EW.eIndexAddrS EV.wide_like (id := 15) (d := 102) (z := 4) ?_ | refine EW.eIndexAddrG EV.wide_like (id := 15) (d := 102) (z := 4) ?_)
  all_goals try (first | refine EW.eLoadA EV.wide_like (id := 15) (d := 103) (k := 4) ?_)
  all_goals try (first | refine EW.eMove EV.wide_like (id := 15) (d := 104) ?_)
  all_goals try (first | refine EW.eMove EV.wide_like (id := 15) (d := 105) ?_)
  all_goals try (first | refine EW.eIndexAddrS EV.wide_like (id := 15) (d := 106) (z := 4) ?_ | refine EW.eIndexAddrG EV.wide_like (id := 15) (d := 106) (z := 4) ?_)
  all_goals try (first | refine EW.eLoadA EV.wide_like (id := 15) (d := 107) (k := 4) ?_)
  all_goals try (first | refine EW.eBuildSlice EV.wide_like (id := 15) (d := 108) (k := 4) ?_)
  all_goals try (first | refine EW.eAppGW EV.wide_like (id := 15) (d := 109) (z := 4) ?_ | refine EW.eAppG EV.wide_like (id := 15) (d := 109) (z := 4) ?_ | refine EW.eAppZW EV.wide_like (id := 15) (d := 109) (z := 4) ?_ | refine EW.eAppZ EV.wide_like (id := 15) (d := 109) (z := 4) ?_ | refine EW.eAppSW EV.wide_like (id := 15) (d := 109) (z := 4) ?_ | refine EW.eAppS EV.wide_like (id := 15) (d := 109) (z := 4) ?_ | refine EW.eAppNW EV.wide_like (id := 15) (d := 109) (z := 4) ?_ | refine EW.eAppN EV.wide_like (id := 15) (d := 109) (z := 4) ?_)
  all_goals try (first | refine EW.eAssign EV.wide_like (id := 15) (d := 13) ?_)
  all_goals try (refine EW.eDraw (id := 15) EW.fok_wide' ?_)
  all_goals try (refine EW.nm ?_)
  all_goals try (first | refine EW.eRegL (id := 16) ?_ | refine EW.eReg (id := 16) ?_)
  all_goals try (first | refine EW.eMove EV.wide_like (id := 16) (d := 110) ?_)
  all_goals try (first | refine EW.eMove EV.wide_like (id := 16) (d := 111) ?_)
  all_goals try (refine EW.eGuard (id := 16) (j := 1) (o := ⟨some 112, _, _, _, _, _⟩) ?_ ?_ <;> (intro hb hb'; (try dsimp only at hb'); (try (exfalso; first | omega | with_reducible exact absurd rfl hb'))))
  all_goals try (first | refine EW.eSkipF EV.wide_like (id := 16) (j := 1) (e := 112) ?_ | refine EW.eSkipU EV.wide_like (id := 16) (j := 1) (e := 112) ?_ | refine EW.eMove EV.wide_like (id := 16) (d := 112) ?_)
  all_goals try (refine EW.eGuard (id := 16) (j := 1) (o := ⟨some 113, _, _, _, _, _⟩) ?_ ?_ <;> (intro hb hb'; (try dsimp only at hb'); (try (exfalso; first | omega | with_reducible exact absurd rfl hb'))))
  all_goals try (first | refine EW.eSkipF EV.wide_like (id := 16) (j := 1) (e := 113) ?_ | refine EW.eSkipU EV.wide_like (id := 16) (j := 1) (e := 113) ?_ | refine EW.eMove EV.wide_like (id := 16) (d := 113) ?_)
  all_goals try (refine EW.eGuard (id := 16) (j := 1) (o := ⟨some 114, _, _, _, _, _⟩) ?_ ?_ <;> (intro hb hb'; (try dsimp only at hb'); (try (exfalso; first | omega | with_reducible exact absurd rfl hb'))))
  all_goals try (first | refine EW.eSkipF EV.wide_like (id := 16) (j := 1) (e := 114) ?_ | refine EW.eSkipU EV.wide_like (id := 16) (j := 1) (e := 114) ?_ | refine EW.eIndexAddrS EV.wide_like (id := 16) (d := 114) (z := 4) ?_ | refine EW.eIndexAddrG EV.wide_like (id := 16) (d := 114) (z := 4) ?_)
  all_goals try (refine EW.eGuard (id := 16) (j := 1) (o := ⟨some 115, _, _, _, _, _⟩) ?_ ?_ <;> (intro hb hb'; (try dsimp only at hb'); (try (exfalso; first | omega | with_reducible exact absurd rfl hb'))))
  all_goals try (first | refine EW.eSkipF EV.wide_like (id := 16) (j := 1) (e := 115) ?_ | refine EW.eSkipU EV.wide_like (id := 16) (j := 1) (e := 115) ?_ | refine EW.eLoadA EV.wide_like (id := 16) (d := 115) (k := 4) ?_)
  all_goals try (refine EW.eGuard (id := 16) (j := 1) (o := ⟨some 116, _, _, _, _, _⟩) ?_ ?_ <;> (intro hb hb'; (try dsimp only at hb'); (try (exfalso; first | omega | with_reducible exact absurd rfl hb'))))
  all_goals try (first | refine EW.eSkipF EV.wide_like (id := 16) (j := 1) (e := 116) ?_ | refine EW.eSkipU EV.wide_like (id := 16) (j := 1) (e := 116) ?_ | refine EW.eLoadA EV.wide_like (id := 16) (d := 116) (k := 4) ?_)
  all_goals try (refine EW.eGuard (id := 16) (j := 1) (o := ⟨some 117, _, _, _, _, _⟩) ?_ ?_ <;> (intro hb hb'; (try dsimp only at hb'); (try (exfalso; first | omega | with_reducible exact absurd rfl hb'))))
  all_goals try (first | refine EW.eSkipF EV.wide_like (id := 16) (j := 1) (e := 117) ?_ | refine EW.eSkipU EV.wide_like (id := 16) (j := 1) (e := 117) ?_ | refine EW.eEqlA EV.wide_like (id := 16) (d := 117) ?_)
  all_goals try (refine EW.eChoice (id := 16) (d := some 118) ?_ ?_ <;> (intro hb hb'; (try dsimp only at hb'); (try (exfalso; first | omega | with_reducible exact absurd rfl hb'))))
  all_goals try (first | refine EW.ePickT EV.wide_like (id := 16) (d := 118) ?_ | refine EW.ePickF EV.wide_like (id := 16) (d := 118) ?_)
  all_goals try (first | refine EW.eAssign EV.wide_like (id := 16) (d := 14) ?_)
  all_goals try (refine EW.eDraw (id := 16) EW.fok_wide' ?_)
  all_goals try (refine EW.nm ?_)
  all_goals try (first | refine EW.eRegL (id := 17) ?_ | refine EW.eReg (id := 17) ?_)
  all_goals try (first | refine EW.eMove EV.wide_like (id := 17) (d := 119) ?_)
  all_goals try (first | refine EW.eMove EV.wide_like (id := 17) (d := 120) ?_)
  all_goals try (first | refine EW.eIndexAddrS EV.wide_like (id := 17) (d := 121) (z := 4) ?_ | refine EW.eIndexAddrG EV.wide_like (id := 17) (d := 121) (z := 4) ?_)
  all_goals try (first | refine EW.eLoadA EV.wide_like (id := 17) (d := 122) (k := 4) ?_)
  all_goals try (first | refine EW.eLoadA EV.wide_like (id := 17) (d := 123) (k := 4) ?_)
  all_goals try (first | refine EW.eCall EV.wide_like (id := 17) Try.call9 (fun w => cmp_is ⟨_, _, _, _⟩ ⟨_, _, _, _⟩ _ w hcr) ?_ | refine EW.eCall EV.wide_like (id := 17) Try.call9 (fun w => cmp_is ⟨_, _, _, _⟩ ⟨_, _, _, _⟩ _ w hcr') ?_ | refine EW.eCall EV.wide_like (id := 17) Try.call9 (fun w => cmp_is (l.getD ((j : Int) - 1).toNat Px.zero) (least l) _ w (ncmp_is l ((j : Int) - 1).toNat (by omega))) ?_)
  all_goals try (first | refine EW.eLss EV.wide_like (id := 17) (d := 125) ?_)
  all_goals try (refine EW.eDraw (id := 17) EW.fok_wide' ?_)
  all_goals try (refine EW.nm ?_)
  all_goals try (first | refine EW.eYes (x := Operand.tmp 125) ?_ | refine EW.eNo (x := Operand.tmp 125) ?_ | (refine EW.eCond (x := Operand.tmp 125) ?_ ?_ <;> (intro hb hb'; (try dsimp only at hb'); (try (exfalso; first | omega | with_reducible exact absurd rfl hb')))))
  all_goals try (refine EW.nm ?_)
  all_goals try (first | refine EW.eRegL (id := 18) ?_ | refine EW.eReg (id := 18) ?_)
  all_goals try (first | refine EW.eAssign EV.wide_like (id := 18) (d := 8) ?_)
  all_goals try (refine EW.eEnd (id := 18) ?_)
  all_goals try (refine EW.nm ?_)
  all_goals try (first | refine EW.eRegL (id := 14) ?_ | refine EW.eReg (id := 14) ?_)
  all_goals try (first | refine EW.eMove EV.wide_like (id := 14) (d := 97) ?_)
  all_goals try (first | refine EW.eSub EV.wide_like (id := 14) (d := 98) ?_)
  all_goals try (first | refine EW.eAssign EV.wide_like (id := 14) (d := 15) ?_)
  all_goals try (refine EW.eEnd (id := 14) ?_)
  all_goals try (refine EW.nm ?_)
  all_goals first | (fail_if_success (with_reducible refine EW.isLater ?_)) | (refine EW.eLaterN (⟨((j : Int) - 1).toNat, by omega⟩) [(75, 90)] (by dsimp only; omega) (by ((repeat (first | exact EW.subR.nil | refine EW.subR.l rfl ?_ | refine EW.subR.b rfl rfl ?_ | refine EW.subR.t rfl rfl ?_ | refine EW.subR.b rfl (by first | (first | exact EW.kvB (fnd_stay (by assumption) (by omega) (by omega)) | exact EW.kvB (fnd_go (by assumption) (by omega) (by omega)) | exact EW.kvB (fnd_first (by omega)) | exact EW.kvB (fnd_no (by omega)) | exact EW.kvW (pvs_dbl (by omega) (by omega))) | exact ((by first | exact EW.kvI (by first | omega | (dsimp only; omega)) | exact EW.kvG (by first | omega | (simp only [List.length_cons, List.length_nil, List.length_append, List.length_map, List.length_set, List.length_replicate, List.length_take, List.length_drop, List.length_range, EV.putL_length, Nat.reduceAdd, Nat.reduceMul, Nat.reduceSub]; omega)) (by first | omega | (simp only [List.length_cons, List.length_nil, List.length_append, List.length_map, List.length_set, List.length_replicate, List.length_take, List.length_drop, List.length_range, EV.putL_length, Nat.reduceAdd, Nat.reduceMul, Nat.reduceSub]; omega)) | exact EW.kvB (by simp [*]) | exact EW.kvW (by (first | rfl | simp)) | rfl))) ?_ | refine EW.subR.t rfl (by first | (first | exact EW.kvB (fnd_stay (by assumption) (by omega) (by omega)) | exact EW.kvB (fnd_go (by assumption) (by omega) (by omega)) | exact EW.kvB (fnd_first (by omega)) | exact EW.kvB (fnd_no (by omega)) | exact EW.kvW (pvs_dbl (by omega) (by omega))) | exact ((by first | exact EW.kvI (by first | omega | (dsimp only; omega)) | exact EW.kvG (by first | omega | (simp only [List.length_cons, List.length_nil, List.length_append, List.length_map, List.length_set, List.length_replicate, List.length_take, List.length_drop, List.length_range, EV.putL_length, Nat.reduceAdd, Nat.reduceMul, Nat.reduceSub]; omega)) (by first | omega | (simp only [List.length_cons, List.length_nil, List.length_append, List.length_map, List.length_set, List.length_replicate, List.length_take, List.length_drop, List.length_range, EV.putL_length, Nat.reduceAdd, Nat.reduceMul, Nat.reduceSub]; omega)) | exact EW.kvB (by simp [*]) | exact EW.kvW (by (first | rfl | simp)) | rfl))) ?_)); (first | done | fail))) (by (((repeat (first | with_reducible exact EW.Frm.refl | refine EW.Frm.upd ?_ rfl | refine EW.Frm.drp ?_ (by decide) rfl)); (first | done | fail)))) (by first | rfl | decide) (by (((repeat (first | exact True.intro | refine ⟨by (exact GV.no rfl rfl), ?_⟩)); (first | done | fail)))) (fun _ => rfl) hcl13 rfl (by ((first | (intro j n hn; cases hn; (first | done | fail)) | (intro n hn; cases hn; (first | done | fail)) | (intro j n hn; (repeat (first | (rcases List.mem_cons.1 hn with rfl | hn; (focus exact ⟨rfl, rfl⟩)) | (cases hn; (first | done | fail))))) | (intro n hn; (repeat (first | (rcases List.mem_cons.1 hn with rfl | hn; (focus exact ⟨rfl, rfl⟩)) | (cases hn; (first | done | fail)))))))))
  all_goals try (refine EW.nm ?_)
  all_goals (try (obtain rfl : j = 0 := by omega); (try have hfz := fnd_zero l))
  all_goals try (first | refine EW.eRegL (id := 19) ?_ | refine EW.eReg (id := 19) ?_)
  all_goals try (first | refine EW.eMove EV.wide_like (id := 19) (d := 126) ?_)
  all_goals try (first | refine EW.eMove EV.wide_like (id := 19) (d := 127) ?_)
  all_goals try (refine EW.eGuard (id := 19) (j := 1) (o := ⟨some 128, _, _, _, _, _⟩) ?_ ?_ <;> (intro hb hb'; (try dsimp only at hb'); (try (exfalso; first | omega | with_reducible exact absurd rfl hb'))))
  all_goals try (first | refine EW.eSkipT EV.wide_like (id := 19) (j := 1) (e := 128) ?_ | refine EW.eSkipU EV.wide_like (id := 19) (j := 1) (e := 128) ?_ | refine EW.eMove EV.wide_like (id := 19) (d := 128) ?_)
  all_goals try (refine EW.eChoice (id := 19) (d := some 129) ?_ ?_ <;> (intro hb hb'; (try dsimp only at hb'); (try (exfalso; first | omega | with_reducible exact absurd rfl hb'))))
  all_goals try (first | refine EW.ePickT EV.wide_like (id := 19) (d := 129) ?_ | refine EW.ePickF EV.wide_like (id := 19) (d := 129) ?_)
  all_goals try (first | refine EW.eMove EV.wide_like (id := 19) (d := 130) ?_)
  all_goals try (refine EW.eGuard (id := 19) (j := 4) (o := ⟨some 131, _, _, _, _, _⟩) ?_ ?_ <;> (intro hb hb'; (try dsimp only at hb'); (try (exfalso; first | omega | with_reducible exact absurd rfl hb'))))
  all_goals try (first | refine EW.eSkipT EV.wide_like (id := 19) (j := 4) (e := 131) ?_ | refine EW.eSkipU EV.wide_like (id := 19) (j := 4) (e := 131) ?_ | refine EW.eMove EV.wide_like (id := 19) (d := 131) ?_)
  all_goals try (refine EW.eGuard (id := 19) (j := 4) (o := ⟨some 132, _, _, _, _, _⟩) ?_ ?_ <;> (intro hb hb'; (try dsimp only at hb'); (try (exfalso; first | omega | with_reducible exact absurd rfl hb'))))
  all_goals try (first | refine EW.eSkipT EV.wide_like (id := 19) (j := 4) (e := 132) ?_ | refine EW.eSkipU EV.wide_like (id := 19) (j := 4) (e := 132) ?_ | refine EW.eCallN [0] EV.wide_like (id := 19) Try.call12 (least_ctS o l k (by omega)) ?_ | refine EW.eCallN [75] EV.wide_like (id := 19) Try.call12 (least_dblG true l (by omega)) ?_)
  all_goals try (refine EW.eGuard (id := 19) (j := 4) (o := ⟨some 133, _, _, _, _, _⟩) ?_ ?_ <;> (intro hb hb'; (try dsimp only at hb'); (try (exfalso; first | omega | with_reducible exact absurd rfl hb'))))
  all_goals try (first | refine EW.eSkipT EV.wide_like (id := 19) (j := 4) (e := 133) ?_ | refine EW.eSkipU EV.wide_like (id := 19) (j := 4) (e := 133) ?_ | refine EW.eLoadA EV.wide_like (id := 19) (d := 133) (k := 4) ?_)
  all_goals try (refine EW.eGuard (id := 19) (j := 4) (o := ⟨some 134, _, _, _, _, _⟩) ?_ ?_ <;> (intro hb hb'; (try dsimp only at hb'); (try (exfalso; first | omega | with_reducible exact absurd rfl hb'))))
  all_goals try (first | refine EW.eSkipT EV.wide_like (id := 19) (j := 4) (e := 134) ?_ | refine EW.eSkipU EV.wide_like (id := 19) (j := 4) (e := 134) ?_ | refine EW.eEqlA EV.wide_like (id := 19) (d := 134) ?_)
  all_goals try (refine EW.eChoice (id := 19) (d := some 135) ?_ ?_ <;> (intro hb hb'; (try dsimp only at hb'); (try (exfalso; first | omega | with_reducible exact absurd rfl hb'))))
  all_goals try (first | refine EW.ePickT EV.wide_like (id := 19) (d := 135) ?_ | refine EW.ePickF EV.wide_like (id := 19) (d := 135) ?_)
  all_goals try (first | refine EW.eAssign EV.wide_like (id := 19) (d := 8) ?_)
  all_goals try (refine EW.eDraw (id := 19) EW.fok_wide' ?_)
  all_goals try (refine EW.nm ?_)
  all_goals (refine EW.eLeaveN [] hR (by first | exact .inl rfl | exact .inr rfl) (by rfl) (by rfl) ?_ ?_ rfl rfl (by (((repeat (first | exact EW.NL.emp | (refine EW.NL.upd ?_ rfl) | refine EW.NL.drp ?_ | refine EW.NL.hp ?_ | refine EW.NL.argS ?_ | refine EW.NL.mix ?_)); (first | done | fail)))) rfl rfl; rotate_left 1; (· ((repeat (first | exact EW.atE.nil | refine EW.atE.lt rfl ?_ | refine EW.atE.lf ?_ | refine EW.atE.b rfl EW.SameB.refl ?_ | (refine EW.atE.b rfl ?_ ?_; rotate_left 1))))))
  all_goals rfl
end Go.Proofs.Ytjcabgoanlhhnaa
