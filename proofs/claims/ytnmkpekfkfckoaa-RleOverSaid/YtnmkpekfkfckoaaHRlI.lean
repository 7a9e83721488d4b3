/- rle: Encode, Size. -/
import Derived.Test.YtnmkpekfkfckoaaHRlH
namespace Go.Proofs.Ytnmkpekfkfckoaa
set_option linter.unusedSimpArgs false
set_option linter.unusedVariables false
open Go.RowKit EV
open SX (Wr Tv Qu Rm Sh Is conjP eqs_iff eqs_false)
open EW (PlL PlT PlV PlVs LfV Mm Bt Opn GV YT lpOf nums)
set_option maxRecDepth 20000
abbrev EncR (f : FuncId) (o : Bool) (l : List Px) (r : List Int) (e : Int) : Prop := CT Try.prog f [.c (.g 0 0 l.length l.length 4)] (upd EW.emp (WP o l)) 1 2 (.t [.inl (.g 1 0 r.length r.length 1), .inl (.v (.int .i64 e))]) (upd (upd EW.emp (WP o l)) [(.l 1, .l true), (.b 1, .b (.w true (nums .u8 r)))])
theorem rleB_len {l : List Px} (hg : Gd l) : ∀ (k a : Nat), l.length - a ≤ k → a ≤ l.length → (encB l a).length ≤ 60 * (l.length - a)
  | 0, a, h, h0 => by rw [encB_end (by omega)]; simp
  | k + 1, a, h, h0 => by
    have hl := hg.sp.1
    have h1 := runA_le h0
    by_cases ha : a < l.length
    · by_cases hr : runA l a < l.length
      · have h2 := runB_gt hr
        have := rleB_len hg k (runB l a) (by omega) h2.2
        have f1 := formN_10 (n := runA l a - a) (by omega)
        have f2 := formN_10 (n := runB l a - runA l a) (by omega)
        have f3 := pixB_gd hg (a := runA l a) (k := runB l a - runA l a) (by omega)
        rw [encB_run ha hr]; simp only [List.length_append]; omega
      · have f1 := formN_10 (n := l.length - a) (by omega)
        rw [encB_last ha hr]; omega
    · rw [encB_end ha]; simp
theorem encB_by (l : List Px) : ∀ (k a : Nat), l.length - a ≤ k → a ≤ l.length → By (encB l a)
  | 0, a, h, h0 => by rw [encB_end (by omega)]; intro x hx; simp at hx
  | k + 1, a, h, h0 => by
    have h1 := runA_le h0
    by_cases ha : a < l.length
    · by_cases hr : runA l a < l.length
      · have h2 := runB_gt hr
        rw [encB_run ha hr]
        exact by_app2 (by_app2 (by_app2 (formN_by _) (formN_by _)) (pixB_by _ _ _)) (encB_by l k (runB l a) (by omega) h2.2)
      · rw [encB_last ha hr]; exact formN_by _
    · rw [encB_end ha]; intro x hx; simp at hx
theorem rleB_by (l : List Px) : By (rleB l) := by_app2 (formN_by _) (encB_by l l.length 0 (by omega) (by omega))
theorem rleB_le {l : List Px} (hg : Gd l) : (rleB l).length ≤ 10 + 60 * l.length := by
  have hl := hg.sp.1
  have f1 := formN_10 (n := l.length) (by omega)
  have := rleB_len hg l.length 0 (by omega) (by omega)
  rw [rleB, List.length_append]; omega
theorem pvs_self (l : List Px) : EW.Sub (pvs l) (pvs l) 0 := by have := pvs_head l []; rwa [List.append_nil] at this
theorem ienc_bad (l : List Px) (hl : l.length ≤ 10000) (h : ¬ spOk l) : EncR 13 false l [] 140 := by
  have hO := iover_bad false false l l hl hl (fun x => h x.1)
  have hs0 := pvs_self l
  clear h
  refine EW.ctEnter EW.sup1 Try.func13 rfl Try.ntmps13 rfl EW.nlP ?_; intro w0 tch ini R hR
  all_goals try (refine EW.nm ?_)
  all_goals try (refine EW.eReg (id := 0) ?_; refine EW.eBox ?_; refine EW.eAssign ?_; refine EW.eAssign ?_; refine EW.eEnd ?_; (try refine EW.nm ?_))
  all_goals try (refine EW.eReg (id := 1) ?_; refine EW.eLoadSub1 3 ?_ hs0; refine EW.eLoadSub1 4 ?_ hs0; refine EW.eCallN [3, 4] Try.call27 (hO) ?_; refine EW.eMove ?_; (first | refine EW.eExtC ?_ | refine EW.eExtA ?_); (first | refine EW.eExtC ?_ | refine EW.eExtA ?_); refine EW.eAssign ?_; refine EW.eAssign ?_; refine EW.eEnd ?_; (try refine EW.nm ?_))
  all_goals try (refine EW.eReg (id := 2) ?_; refine EW.eMove ?_; refine EW.eNeq ?_; refine EW.eEnd ?_; (try refine EW.nm ?_))
  all_goals try (first | refine EW.eYes (x := .tmp 21) ?_ | refine EW.eNo (x := .tmp 21) ?_ | (refine EW.eCond (x := .tmp 21) ?_ ?_ <;> (intro hb hb'; (try dsimp only at hb'); (try (exfalso; first | omega | with_reducible exact absurd rfl hb')))))
  all_goals try (refine EW.nm ?_)
  all_goals try (refine EW.eReg (id := 3) ?_; refine EW.eMove ?_; refine EW.eAssign ?_; refine EW.eAssign ?_; refine EW.eEnd ?_; (try refine EW.nm ?_))
  all_goals try (refine EW.eNilGK 2 5 1 ?_)
  all_goals try (with_reducible refine EW.parkK ?_)
  all_goals try (refine EW.eReg (id := 4) ?_; fail "no contract of mullion/pack.NewWriter"; refine EW.eAlloc ?_; (first | refine EW.eStoreW (k := 1) ?_ | refine EW.eStore (k := 1) ?_); refine EW.eEnd ?_; (try refine EW.nm ?_))
  all_goals try (refine EW.eReg (id := 5) ?_; refine EW.eLoad1 ?_; refine EW.eLoad1 ?_; (first | refine EW.eLenS ?_ | refine EW.eLenG ?_ | refine EW.eLenN ?_); fail "no contract of (*mullion/pack.Writer).Small"; refine EW.eEnd ?_; (try refine EW.nm ?_))
  all_goals try (refine EW.eReg (id := 6) ?_; refine EW.eAlloc ?_; (first | refine EW.eStoreW (k := 1) ?_ | refine EW.eStore (k := 1) ?_); refine EW.eEnd ?_; (try refine EW.nm ?_))
  all_goals try (refine EW.eReg (id := 7) ?_; refine EW.eLoad1 ?_; fail "no contract of mullion/rle.set"; refine EW.eEnd ?_; (try refine EW.nm ?_))
  all_goals try (refine EW.eReg (id := 18) ?_; refine EW.eLoad1 ?_; refine EW.eLoad1 ?_; (first | refine EW.eLenS ?_ | refine EW.eLenG ?_ | refine EW.eLenN ?_); refine EW.eLss ?_; refine EW.eEnd ?_; (try refine EW.nm ?_))
  all_goals try (first | refine EW.eYes (x := .tmp 63) ?_ | refine EW.eNo (x := .tmp 63) ?_ | (refine EW.eCond (x := .tmp 63) ?_ ?_ <;> (intro hb hb'; (try dsimp only at hb'); (try (exfalso; first | omega | with_reducible exact absurd rfl hb')))))
  all_goals try (refine EW.nm ?_)
  all_goals try (refine EW.eReg (id := 19) ?_; refine EW.eLoad1 ?_; refine EW.eLoad1 ?_; (first | refine EW.eLenS ?_ | refine EW.eLenG ?_ | refine EW.eLenN ?_); refine EW.eLoad1 ?_; refine EW.eSub ?_; refine EW.eLoad1 ?_; (first | refine EW.eLenS ?_ | refine EW.eLenG ?_ | refine EW.eLenN ?_); fail "no contract of (*mullion/pack.Writer).Small"; refine EW.eEnd ?_; (try refine EW.nm ?_))
  all_goals try (refine EW.eReg (id := 20) ?_; refine EW.eLoad1 ?_; fail "no contract of (*mullion/pack.Writer).Bytes"; refine EW.eMove ?_; (first | refine EW.eExtC ?_ | refine EW.eExtA ?_); (first | refine EW.eExtC ?_ | refine EW.eExtA ?_); refine EW.eAssign ?_; refine EW.eAssign ?_; refine EW.eEnd ?_; (try refine EW.nm ?_))
  all_goals try (refine EW.eReg (id := 21) ?_; refine EW.eMove ?_; refine EW.eNeq ?_; refine EW.eEnd ?_; (try refine EW.nm ?_))
  all_goals try (first | refine EW.eYes (x := .tmp 78) ?_ | refine EW.eNo (x := .tmp 78) ?_ | (refine EW.eCond (x := .tmp 78) ?_ ?_ <;> (intro hb hb'; (try dsimp only at hb'); (try (exfalso; first | omega | with_reducible exact absurd rfl hb')))))
  all_goals try (refine EW.nm ?_)
  all_goals try (refine EW.eReg (id := 22) ?_; refine EW.eAssign ?_; refine EW.eAssign ?_; refine EW.eEnd ?_; (try refine EW.nm ?_))
  all_goals try (with_reducible refine EW.parkK ?_)
  all_goals try (refine EW.eReg (id := 23) ?_; refine EW.eMove ?_; fail "no contract of mullion/crc.Seal"; refine EW.eAssign ?_; refine EW.eAssign ?_; refine EW.eEnd ?_; (try refine EW.nm ?_))
  all_goals try (with_reducible refine EW.parkK ?_)
  all_goals try (refine EW.Park.mk ?_)
  all_goals (refine EW.eLeaveN [5] hR EW.orP (by rfl) (by rfl) ?_ ?_ rfl rfl EW.nlP rfl rfl; rotate_left 1; (· ((repeat (first | exact EW.atE.nil | refine EW.atE.lt rfl ?_ | refine EW.atE.lf ?_ | refine EW.atE.b rfl EW.SameB.refl ?_ | (refine EW.atE.b rfl ?_ ?_; rotate_left 1))))))
  all_goals rfl
set_option maxHeartbeats 2000000 in
theorem ienc_y1 (l : List Px) (hg : Gd l) (hlt : endR l 0 < l.length) : EncR 13 false l (sealL (rleB l)) 0 := by
  have hl := hg.sp.1
  have hO := iover_y false false l l (by omega) (by omega) hg.sp hg.sp rfl
  have hs0 := pvs_self l
  have f1 := formN_10 (n := l.length) (by omega)
  have hS1 := wsmall_ok l.length 4096 [] (by omega) (by omega) (by simp)
  obtain ⟨E9, hE9⟩ : ∃ E, endR l 0 = E := ⟨_, rfl⟩
  obtain ⟨B, hB9⟩ : ∃ B, formN l.length ++ encU l 0 = B := ⟨_, rfl⟩
  have hER := endR_le l l.length 0 (by omega) (by omega)
  rw [hE9] at hER
  rw [hE9] at hlt
  have hR8 := enc_runs l (formN l.length) B hg (by omega) E9 hB9 hE9
  have hq := encB_eq l l.length 0 (by omega) (by omega)
  have hby := rleB_by l
  have hle := rleB_le hg
  have hB8 : rleB l = B ++ if E9 < l.length then formN (l.length - E9) else [] := by rw [rleB, hq, ← List.append_assoc, hB9, hE9]
  rw [List.nil_append] at hS1
  have hnl : (nearL l l).length = l.length := nearL_len rfl
  rw [if_pos hlt] at hB8
  have hBl : B.length ≤ 300000 := by have := congrArg List.length hB8; rw [List.length_append] at this; omega
  have hS2 := wsmall_ok (l.length - E9) l.length B (by omega) (by omega) (by omega)
  rw [← hB8] at hS2
  have hBy := wbytes_ok (rleB l) (by omega)
  have hSe := iseal (rleB l) hby (by omega)
  have hwa : Wr .i64 ((l.length : Int) - (E9 : Int)) ((l.length - E9 : Nat) : Int) := by rw [show (l.length : Int) - (E9 : Int) = ((l.length - E9 : Nat) : Int) by omega]; exact Wr.i64 (by omega)
  generalize rleB l = Z at *
  clear hB8 hby hle hq hE9 hB9 hg
  refine EW.ctEnter EW.sup1 Try.func13 rfl Try.ntmps13 rfl EW.nlP ?_; intro w0 tch ini R hR
  all_goals try (refine EW.nm ?_)
  all_goals try (refine EW.eReg (id := 0) ?_; refine EW.eBox ?_; refine EW.eAssign ?_; refine EW.eAssign ?_; refine EW.eEnd ?_; (try refine EW.nm ?_))
  all_goals try (refine EW.eReg (id := 1) ?_; refine EW.eLoadSub1 3 ?_ hs0; refine EW.eLoadSub1 4 ?_ hs0; refine EW.eCallN [3, 4] Try.call27 (hO) ?_; refine EW.eMove ?_; (first | refine EW.eExtC ?_ | refine EW.eExtA ?_); (first | refine EW.eExtC ?_ | refine EW.eExtA ?_); refine EW.eAssign ?_; refine EW.eAssign ?_; refine EW.eEnd ?_; (try refine EW.nm ?_))
  all_goals try (refine EW.eReg (id := 2) ?_; refine EW.eMove ?_; refine EW.eNeq ?_; refine EW.eEnd ?_; (try refine EW.nm ?_))
  all_goals try (first | refine EW.eYes (x := .tmp 21) ?_ | refine EW.eNo (x := .tmp 21) ?_ | (refine EW.eCond (x := .tmp 21) ?_ ?_ <;> (intro hb hb'; (try dsimp only at hb'); (try (exfalso; first | omega | with_reducible exact absurd rfl hb')))))
  all_goals try (refine EW.nm ?_)
  all_goals try (refine EW.eReg (id := 3) ?_; refine EW.eMove ?_; refine EW.eAssign ?_; refine EW.eAssign ?_; refine EW.eEnd ?_; (try refine EW.nm ?_))
  all_goals try (with_reducible refine EW.parkK ?_)
  all_goals try (refine EW.eReg (id := 4) ?_; refine EW.eCallN [] Try.call32 (newW) ?_; refine EW.eAlloc ?_; (first | refine EW.eStoreW (k := 1) ?_ | refine EW.eStore (k := 1) ?_); refine EW.eEnd ?_; (try refine EW.nm ?_))
  all_goals try (refine EW.eReg (id := 5) ?_; refine EW.eLoad1 ?_; refine EW.eLoad1 ?_; (first | refine EW.eLenS ?_ | refine EW.eLenG ?_ | refine EW.eLenN ?_); (first | refine EW.eCallN [30, 31] Try.call33 (hS1) ?_ | refine EW.eCallN [30, 71] Try.call33 (hS2) ?_); refine EW.eEnd ?_; (try refine EW.nm ?_))
  all_goals try (refine EW.eReg (id := 6) ?_; refine EW.eAlloc ?_; (first | refine EW.eStoreW (k := 1) ?_ | refine EW.eStore (k := 1) ?_); refine EW.eEnd ?_; (try refine EW.nm ?_))
  all_goals try (refine EW.eReg (id := 7) ?_; refine EW.eLoad1 ?_; refine EW.eCallN [0] Try.call34 (pset false l) ?_; refine EW.eEnd ?_; (try refine EW.nm ?_))
  all_goals first | (fail_if_success (with_reducible refine EW.isRange ?_)) | (refine EW.eRange [(1, .c (.p 10 0)), (6, .c (.p 40 0)), (7, .c (.p 60 0))] (m := 71) (nD := 61) (nL := 62) [62, 70, 0, 10, 40, 60, 30, 50, 61] Try.call58 (hR8) ?_)
  all_goals try (refine EW.nm ?_)
  all_goals try (refine EW.eReg (id := 18) ?_; refine EW.eLoad1 ?_; refine EW.eLoad1 ?_; (first | refine EW.eLenS ?_ | refine EW.eLenG ?_ | refine EW.eLenN ?_); refine EW.eLss ?_; refine EW.eEnd ?_; (try refine EW.nm ?_))
  all_goals try (first | refine EW.eYes (x := .tmp 63) ?_ | refine EW.eNo (x := .tmp 63) ?_ | (refine EW.eCond (x := .tmp 63) ?_ ?_ <;> (intro hb hb'; (try dsimp only at hb'); (try (exfalso; first | omega | with_reducible exact absurd rfl hb')))))
  all_goals try (refine EW.nm ?_)
  all_goals try (refine EW.eReg (id := 19) ?_; refine EW.eLoad1 ?_; refine EW.eLoad1 ?_; (first | refine EW.eLenS ?_ | refine EW.eLenG ?_ | refine EW.eLenN ?_); refine EW.eLoad1 ?_; refine EW.eSub ?_ (hr' := hwa); refine EW.eLoad1 ?_; (first | refine EW.eLenS ?_ | refine EW.eLenG ?_ | refine EW.eLenN ?_); (first | refine EW.eCallN [30, 31] Try.call33 (hS1) ?_ | refine EW.eCallN [30, 71] Try.call33 (hS2) ?_); refine EW.eEnd ?_; (try refine EW.nm ?_))
  all_goals try (refine EW.eReg (id := 20) ?_; refine EW.eLoad1 ?_; refine EW.eCallN [30, 80] Try.call36 (hBy) ?_; refine EW.eMove ?_; (first | refine EW.eExtC ?_ | refine EW.eExtA ?_); (first | refine EW.eExtC ?_ | refine EW.eExtA ?_); refine EW.eAssign ?_; refine EW.eAssign ?_; refine EW.eEnd ?_; (try refine EW.nm ?_))
  all_goals try (refine EW.eReg (id := 21) ?_; refine EW.eMove ?_; refine EW.eNeq ?_; refine EW.eEnd ?_; (try refine EW.nm ?_))
  all_goals try (first | refine EW.eYes (x := .tmp 78) ?_ | refine EW.eNo (x := .tmp 78) ?_ | (refine EW.eCond (x := .tmp 78) ?_ ?_ <;> (intro hb hb'; (try dsimp only at hb'); (try (exfalso; first | omega | with_reducible exact absurd rfl hb')))))
  all_goals try (refine EW.nm ?_)
  all_goals try (refine EW.eReg (id := 22) ?_; refine EW.eAssign ?_; refine EW.eAssign ?_; refine EW.eEnd ?_; (try refine EW.nm ?_))
  all_goals try (with_reducible refine EW.parkK ?_)
  all_goals try (refine EW.eReg (id := 23) ?_; refine EW.eMove ?_; refine EW.eCallN [90] Try.call30 (hSe) ?_; refine EW.eAssign ?_; refine EW.eAssign ?_; refine EW.eEnd ?_; (try refine EW.nm ?_))
  all_goals try (with_reducible refine EW.parkK ?_)
  all_goals try (refine EW.Park.mk ?_)
  all_goals (refine EW.eLeaveN [100] hR EW.orP (by rfl) (by rfl) ?_ ?_ rfl rfl EW.nlP rfl rfl; rotate_left 1; (· ((repeat (first | exact EW.atE.nil | refine EW.atE.lt rfl ?_ | refine EW.atE.lf ?_ | refine EW.atE.b rfl EW.SameB.refl ?_ | (refine EW.atE.b rfl ?_ ?_; rotate_left 1))))))
  all_goals rfl
set_option maxHeartbeats 2000000 in
theorem ienc_y2 (l : List Px) (hg : Gd l) (hge : ¬ endR l 0 < l.length) : EncR 13 false l (sealL (rleB l)) 0 := by
  have hl := hg.sp.1
  have hO := iover_y false false l l (by omega) (by omega) hg.sp hg.sp rfl
  have hs0 := pvs_self l
  have f1 := formN_10 (n := l.length) (by omega)
  have hS1 := wsmall_ok l.length 4096 [] (by omega) (by omega) (by simp)
  obtain ⟨E9, hE9⟩ : ∃ E, endR l 0 = E := ⟨_, rfl⟩
  obtain ⟨B, hB9⟩ : ∃ B, formN l.length ++ encU l 0 = B := ⟨_, rfl⟩
  have hER := endR_le l l.length 0 (by omega) (by omega)
  rw [hE9] at hER
  rw [hE9] at hge
  have hR8 := enc_runs l (formN l.length) B hg (by omega) E9 hB9 hE9
  have hq := encB_eq l l.length 0 (by omega) (by omega)
  have hby := rleB_by l
  have hle := rleB_le hg
  have hB8 : rleB l = B ++ if E9 < l.length then formN (l.length - E9) else [] := by rw [rleB, hq, ← List.append_assoc, hB9, hE9]
  rw [List.nil_append] at hS1
  have hnl : (nearL l l).length = l.length := nearL_len rfl
  rw [if_neg (by omega), List.append_nil] at hB8
  have hBy := wbytes_ok (rleB l) (by omega)
  have hSe := iseal (rleB l) hby (by omega)
  rw [← hB8] at hR8
  generalize rleB l = Z at *
  clear hB8 hby hle hq hE9 hB9 hg
  refine EW.ctEnter EW.sup1 Try.func13 rfl Try.ntmps13 rfl EW.nlP ?_; intro w0 tch ini R hR
  all_goals try (refine EW.nm ?_)
  all_goals try (refine EW.eReg (id := 0) ?_; refine EW.eBox ?_; refine EW.eAssign ?_; refine EW.eAssign ?_; refine EW.eEnd ?_; (try refine EW.nm ?_))
  all_goals try (refine EW.eReg (id := 1) ?_; refine EW.eLoadSub1 3 ?_ hs0; refine EW.eLoadSub1 4 ?_ hs0; refine EW.eCallN [3, 4] Try.call27 (hO) ?_; refine EW.eMove ?_; (first | refine EW.eExtC ?_ | refine EW.eExtA ?_); (first | refine EW.eExtC ?_ | refine EW.eExtA ?_); refine EW.eAssign ?_; refine EW.eAssign ?_; refine EW.eEnd ?_; (try refine EW.nm ?_))
  all_goals try (refine EW.eReg (id := 2) ?_; refine EW.eMove ?_; refine EW.eNeq ?_; refine EW.eEnd ?_; (try refine EW.nm ?_))
  all_goals try (first | refine EW.eYes (x := .tmp 21) ?_ | refine EW.eNo (x := .tmp 21) ?_ | (refine EW.eCond (x := .tmp 21) ?_ ?_ <;> (intro hb hb'; (try dsimp only at hb'); (try (exfalso; first | omega | with_reducible exact absurd rfl hb')))))
  all_goals try (refine EW.nm ?_)
  all_goals try (refine EW.eReg (id := 3) ?_; refine EW.eMove ?_; refine EW.eAssign ?_; refine EW.eAssign ?_; refine EW.eEnd ?_; (try refine EW.nm ?_))
  all_goals try (with_reducible refine EW.parkK ?_)
  all_goals try (refine EW.eReg (id := 4) ?_; refine EW.eCallN [] Try.call32 (newW) ?_; refine EW.eAlloc ?_; (first | refine EW.eStoreW (k := 1) ?_ | refine EW.eStore (k := 1) ?_); refine EW.eEnd ?_; (try refine EW.nm ?_))
  all_goals try (refine EW.eReg (id := 5) ?_; refine EW.eLoad1 ?_; refine EW.eLoad1 ?_; (first | refine EW.eLenS ?_ | refine EW.eLenG ?_ | refine EW.eLenN ?_); refine EW.eCallN [30, 31] Try.call33 (hS1) ?_; refine EW.eEnd ?_; (try refine EW.nm ?_))
  all_goals try (refine EW.eReg (id := 6) ?_; refine EW.eAlloc ?_; (first | refine EW.eStoreW (k := 1) ?_ | refine EW.eStore (k := 1) ?_); refine EW.eEnd ?_; (try refine EW.nm ?_))
  all_goals try (refine EW.eReg (id := 7) ?_; refine EW.eLoad1 ?_; refine EW.eCallN [0] Try.call34 (pset false l) ?_; refine EW.eEnd ?_; (try refine EW.nm ?_))
  all_goals first | (fail_if_success (with_reducible refine EW.isRange ?_)) | (refine EW.eRange [(1, .c (.p 10 0)), (6, .c (.p 40 0)), (7, .c (.p 60 0))] (m := 71) (nD := 61) (nL := 62) [62, 70, 0, 10, 40, 60, 30, 50, 61] Try.call58 (hR8) ?_)
  all_goals try (refine EW.nm ?_)
  all_goals try (refine EW.eReg (id := 18) ?_; refine EW.eLoad1 ?_; refine EW.eLoad1 ?_; (first | refine EW.eLenS ?_ | refine EW.eLenG ?_ | refine EW.eLenN ?_); refine EW.eLss ?_; refine EW.eEnd ?_; (try refine EW.nm ?_))
  all_goals try (first | refine EW.eYes (x := .tmp 63) ?_ | refine EW.eNo (x := .tmp 63) ?_ | (refine EW.eCond (x := .tmp 63) ?_ ?_ <;> (intro hb hb'; (try dsimp only at hb'); (try (exfalso; first | omega | with_reducible exact absurd rfl hb')))))
  all_goals try (refine EW.nm ?_)
  all_goals try (refine EW.eReg (id := 19) ?_; refine EW.eLoad1 ?_; refine EW.eLoad1 ?_; (first | refine EW.eLenS ?_ | refine EW.eLenG ?_ | refine EW.eLenN ?_); refine EW.eLoad1 ?_; refine EW.eSub ?_; refine EW.eLoad1 ?_; (first | refine EW.eLenS ?_ | refine EW.eLenG ?_ | refine EW.eLenN ?_); refine EW.eCallN [30, 31] Try.call33 (hS1) ?_; refine EW.eEnd ?_; (try refine EW.nm ?_))
  all_goals try (refine EW.eReg (id := 20) ?_; refine EW.eLoad1 ?_; refine EW.eCallN [30, 71] Try.call36 (hBy) ?_; refine EW.eMove ?_; (first | refine EW.eExtC ?_ | refine EW.eExtA ?_); (first | refine EW.eExtC ?_ | refine EW.eExtA ?_); refine EW.eAssign ?_; refine EW.eAssign ?_; refine EW.eEnd ?_; (try refine EW.nm ?_))
  all_goals try (refine EW.eReg (id := 21) ?_; refine EW.eMove ?_; refine EW.eNeq ?_; refine EW.eEnd ?_; (try refine EW.nm ?_))
  all_goals try (first | refine EW.eYes (x := .tmp 78) ?_ | refine EW.eNo (x := .tmp 78) ?_ | (refine EW.eCond (x := .tmp 78) ?_ ?_ <;> (intro hb hb'; (try dsimp only at hb'); (try (exfalso; first | omega | with_reducible exact absurd rfl hb')))))
  all_goals try (refine EW.nm ?_)
  all_goals try (refine EW.eReg (id := 22) ?_; refine EW.eAssign ?_; refine EW.eAssign ?_; refine EW.eEnd ?_; (try refine EW.nm ?_))
  all_goals try (with_reducible refine EW.parkK ?_)
  all_goals try (refine EW.eReg (id := 23) ?_; refine EW.eMove ?_; refine EW.eCallN [80] Try.call30 (hSe) ?_; refine EW.eAssign ?_; refine EW.eAssign ?_; refine EW.eEnd ?_; (try refine EW.nm ?_))
  all_goals try (with_reducible refine EW.parkK ?_)
  all_goals try (refine EW.Park.mk ?_)
  all_goals (refine EW.eLeaveN [90] hR EW.orP (by rfl) (by rfl) ?_ ?_ rfl rfl EW.nlP rfl rfl; rotate_left 1; (· ((repeat (first | exact EW.atE.nil | refine EW.atE.lt rfl ?_ | refine EW.atE.lf ?_ | refine EW.atE.b rfl EW.SameB.refl ?_ | (refine EW.atE.b rfl ?_ ?_; rotate_left 1))))))
  all_goals rfl
theorem ienc_y (l : List Px) (hg : Gd l) : EncR 13 false l (sealL (rleB l)) 0 := by
  by_cases h : endR l 0 < l.length
  · exact ienc_y1 l hg h
  · exact ienc_y2 l hg h
end Go.Proofs.Ytnmkpekfkfckoaa
