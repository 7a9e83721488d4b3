/- pack.Many of pixels; rle.take. -/
import Derived.Test.YtnmkpekfkfckoaaHRlT
namespace Go.Proofs.Ytnmkpekfkfckoaa
set_option linter.unusedSimpArgs false
set_option linter.unusedVariables false
open Go.RowKit EV
open SX (Wr Tv Qu Rm Sh Is conjP eqs_iff eqs_false)
open EW (PlL PlT PlV PlVs LfV Mm Bt Opn GV YT lpOf nums)
set_option maxRecDepth 20000
/-- What Many comes to, of at most m. -/
inductive ManyR (bs : List Int) (m p : Nat) : List Px → Nat → Bool → Prop
  | ok {c k r q f} : num (bs.drop p) = some (c, k) → 0 < k → p + k ≤ bs.length → c ≤ m → Mny bs c [] (p + k) r q f → q ≤ bs.length → ManyR bs m p r q f
  | no : (∀ v k, num (bs.drop p) = some (v, k) → m < v) → ManyR bs m p [] p true
theorem num_in {bs : List Int} {p v k : Nat} (hy : By bs) (hp : p ≤ bs.length) (h : num (bs.drop p) = some (v, k)) : 0 < k ∧ p + k ≤ bs.length := by
  obtain ⟨a, b, _⟩ := num_le (n := bs.length - p) hy (by omega) h
  exact ⟨a, by omega⟩
theorem many_ex (bs : List Int) (m p : Nat) (hy : By bs) (hl : bs.length ≤ 1000000) (hp : p ≤ bs.length) : ∃ r q f, ManyR bs m p r q f ∧ q ≤ bs.length := by
  cases h : num (bs.drop p) with
  | none => exact ⟨[], p, true, .no (fun v k hq => by rw [h] at hq; cases hq), hp⟩
  | some c =>
    obtain ⟨c, k⟩ := c
    obtain ⟨k0, k1⟩ := num_in hy hp h
    rcases Nat.lt_or_ge m c with hm | hm
    · exact ⟨[], p, true, .no (fun v k' hq => by rw [h] at hq; cases hq; exact hm), hp⟩
    · obtain ⟨r, q, f, hq, hM⟩ := mny_ex bs c hy hl c [] (p + k) (by simp) (by simp) k1
      exact ⟨r, q, f, .ok h k0 k1 hm hM hq, hq⟩
theorem smallY {bs : List Int} {p m v k : Nat} (hy : By bs) (hl : bs.length ≤ 1000000) (hp : p ≤ bs.length) (hm : m < 9223372036854775808) (h : num (bs.drop p) = some (v, k)) (hv : v ≤ m) : CT Try.prog 70 [.c (.p 0 0), .c (.v (.int .i64 m))] (upd EW.emp (WQr bs p false)) 2 2 (.c (.v (.int .i64 v))) (upd (upd EW.emp (WQr bs p false)) (RC bs (p + k) false)) := by
  have := rsmall_ok bs p (bs.length - p) m v k hy (by omega) hl hm h hv
  rwa [show bs.length - p - k = bs.length - (p + k) by omega] at this
theorem smallN {bs : List Int} {p m : Nat} (hy : By bs) (hl : bs.length ≤ 1000000) (hp : p ≤ bs.length) (hm : m < 9223372036854775808) (h : ∀ v k, num (bs.drop p) = some (v, k) → m < v) : CT Try.prog 70 [.c (.p 0 0), .c (.v (.int .i64 m))] (upd EW.emp (WQr bs p false)) 2 2 (.c (.v (.int .i64 0))) (upd (upd EW.emp (WQr bs p false)) (RC bs p true)) :=
  rsmall_no bs p (bs.length - p) m hy (by omega) hl hm h
abbrev ManyC (bs : List Int) (m p : Nat) (r : List Px) (q : Nat) (f : Bool) : Prop := CT Try.prog 74 [.c (.p 0 0), .c (.v (.int .i64 (m : Int))), .c (.f 75 [])] (upd EW.emp (WQr bs p false)) 2 3 (.c (.g 2 0 r.length r.length 4)) (upd (upd EW.emp (WQr bs p false)) [(.b 0, .b (.m true (rcs q (bs.length - q) f))), (.l 2, .l true), (.b 2, .b (.w true (pvs r)))])
theorem pvs_snoc (l : List Px) (x : Px) : pvs l ++ [.int .u32 x.z, .int .i64 x.o, .int .i64 x.t, .int .u32 x.c] = pvs (l ++ [x]) := by simp [pvs, Px.vals]
theorem many_no (bs : List Int) (m p : Nat) (hy : By bs) (hl : bs.length ≤ 1000000) (hp : p ≤ bs.length) (hm : m ≤ 4096) (h : ∀ v k, num (bs.drop p) = some (v, k) → m < v) : ManyC bs m p [] p true := by
  have hS := smallN hy hl hp (m := m) (by omega) h
  refine EW.ctEnter EW.sup1 Try.func74 rfl Try.ntmps74 rfl EW.nlP ?_; intro w0 tch ini R hR
  all_goals try (refine EW.nm ?_)
  all_goals try (refine EW.eReg (id := 0) ?_; refine EW.eAssign ?_; refine EW.eEnd ?_; (try refine EW.nm ?_))
  all_goals try (refine EW.eReg (id := 1) ?_; refine EW.eAssign ?_; refine EW.eEnd ?_; (try refine EW.nm ?_))
  all_goals try (refine EW.eReg (id := 2) ?_; refine EW.eMove ?_; refine EW.eMove ?_; refine EW.eCallN [0, 1] Try.call70 (hS) ?_; refine EW.eMove ?_; refine EW.eEnd ?_; (try refine EW.nm ?_))
  all_goals first | (fail_if_success (refine EW.eUnroll 1 ?_)) | (refine EW.eLoopD [6, 7, 8, 12, 13, 14, 15, 16, 17, 18, 19, 20, 21, 22, 23] 9 (fun j : {x : Nat // x = 0} => [(.t 12, .v (.c (.v (.int .i64 j.1)))), (.t 6, .v (.c (.v (.slice none 0 0)))), (.t 7, .v (.c (.v (.slice none 0 0))))]) (fun j => j.1) (⟨0, rfl⟩) (by ((repeat (first | exact EW.subW.nil | refine EW.subW.cons rfl ?_ | refine EW.subW.conv rfl ?_)); (first | done | fail))) ?_; rintro hcl3 ⟨k, hk⟩; (try dsimp only))
  all_goals try (refine EW.nm ?_)
  all_goals try (refine EW.eReg (id := 3) ?_; refine EW.eLss ?_; refine EW.eEnd ?_; (try refine EW.nm ?_))
  all_goals try (first | refine EW.eYes (x := .tmp 13) ?_ | refine EW.eNo (x := .tmp 13) ?_ | (refine EW.eCond (x := .tmp 13) ?_ ?_ <;> (intro hb hb'; (try dsimp only at hb'); (try (exfalso; first | omega | with_reducible exact absurd rfl hb')))))
  all_goals try (refine EW.nm ?_)
  all_goals try (refine EW.eReg (id := 4) ?_; refine EW.eMove ?_; refine EW.eMove ?_; fail "callv"; refine EW.eAlloc ?_; (first | refine EW.eStoreW (k := 4) ?_ | refine EW.eStore (k := 4) ?_); refine EW.eEnd ?_; (try refine EW.nm ?_))
  all_goals try (refine EW.eReg (id := 5) ?_; refine EW.eMove ?_; fail "no contract of (*mullion/pack.Reader).none"; refine EW.eEnd ?_; (try refine EW.nm ?_))
  all_goals try (first | refine EW.eYes (x := .tmp 18) ?_ | refine EW.eNo (x := .tmp 18) ?_ | (refine EW.eCond (x := .tmp 18) ?_ ?_ <;> (intro hb hb'; (try dsimp only at hb'); (try (exfalso; first | omega | with_reducible exact absurd rfl hb')))))
  all_goals try (refine EW.nm ?_)
  all_goals try (refine EW.eReg (id := 6) ?_; refine EW.eAssign ?_; refine EW.eEnd ?_; (try refine EW.nm ?_))
  all_goals try (with_reducible refine EW.parkK ?_)
  all_goals try (refine EW.eReg (id := 7) ?_; refine EW.eMove ?_; refine EW.eLoadA (k := 4) ?_; refine EW.eBuildSlice (k := 4) ?_; (first | refine EW.eAppGW (z := 4) ?_ | refine EW.eAppG (z := 4) ?_ | refine EW.eAppZW (z := 4) ?_ | refine EW.eAppZ (z := 4) ?_ | refine EW.eAppSW (z := 4) ?_ | refine EW.eAppS (z := 4) ?_ | refine EW.eAppNW (z := 4) ?_ | refine EW.eAppN (z := 4) ?_); refine EW.eAssign ?_; refine EW.eEnd ?_; (try refine EW.nm ?_))
  all_goals try (refine EW.eReg (id := 8) ?_; refine EW.eAdd ?_; refine EW.eMove ?_; refine EW.eEnd ?_; (try refine EW.nm ?_))
  all_goals first | (fail_if_success (with_reducible refine EW.isLater ?_)) | (refine EW.eLaterD (⟨k, hk⟩) (by dsimp only; omega) (by ((repeat (first | exact EW.subW.nil | refine EW.subW.cons rfl ?_ | refine EW.subW.conv rfl ?_)); (first | done | fail))) hcl3)
  all_goals try (refine EW.nm ?_)
  all_goals try (refine EW.eReg (id := 9) ?_; refine EW.eMove ?_; refine EW.eAssign ?_; refine EW.eEnd ?_; (try refine EW.nm ?_))
  all_goals (try (refine EW.eNilGK 6 8 4 ?_))
  all_goals try (with_reducible refine EW.parkK ?_)
  all_goals try (refine EW.Park.mk ?_)
  all_goals (refine EW.eLeaveN [8] hR EW.orP (by rfl) (by rfl) ?_ ?_ rfl rfl EW.nlP rfl rfl; rotate_left 1; (· ((repeat (first | exact EW.atE.nil | refine EW.atE.lt rfl ?_ | refine EW.atE.lf ?_ | refine EW.atE.b rfl EW.SameB.refl ?_ | (refine EW.atE.b rfl ?_ ?_; rotate_left 1))))))
  all_goals rfl
set_option maxHeartbeats 2000000 in
theorem many_ok (bs : List Int) (m p c k : Nat) (r : List Px) (q : Nat) (f : Bool) (hy : By bs) (hl : bs.length ≤ 1000000) (hp : p ≤ bs.length) (hm : m ≤ 4096) (h : num (bs.drop p) = some (c, k)) (hk : p + k ≤ bs.length) (hc : c ≤ m) (hM : Mny bs c [] (p + k) r q f) : ManyC bs m p r q f := by
  have hS := smallY hy hl hp (m := m) (by omega) h hc
  refine EW.ctEnter EW.sup1 Try.func74 rfl Try.ntmps74 rfl EW.nlP ?_; intro w0 tch ini R hR
  all_goals try (refine EW.nm ?_)
  all_goals try (refine EW.eReg (id := 0) ?_; refine EW.eAssign ?_; refine EW.eEnd ?_; (try refine EW.nm ?_))
  all_goals try (refine EW.eReg (id := 1) ?_; refine EW.eAssign ?_; refine EW.eEnd ?_; (try refine EW.nm ?_))
  all_goals try (refine EW.eReg (id := 2) ?_; refine EW.eMove ?_; refine EW.eMove ?_; refine EW.eCallN [0, 1] Try.call70 (hS) ?_; refine EW.eMove ?_; refine EW.eEnd ?_; (try refine EW.nm ?_))
  all_goals first | (fail_if_success (refine EW.eUnroll 1 ?_)) | (refine EW.eNilG 7 5 4 ?_)
  all_goals first | (fail_if_success (refine EW.eUnroll 1 ?_)) | (refine EW.eLoopD [1000000, 6, 7, 8, 12, 13, 14, 15, 16, 17, 18, 19, 20, 21, 22, 23] 5 (fun j : {x : List Px × Nat × Nat // Mny bs c x.1 x.2.1 r q f ∧ x.1.length = x.2.2 ∧ x.2.1 ≤ bs.length} => [(.t 12, .v (.c (.v (.int .i64 (j.1.2.2 : Int))))), (.t 7, .v (.c (.g 5 0 j.1.2.2 j.1.2.2 4))), (.l 5, .l true), (.b 5, .b (.w true (pvs j.1.1))), (.b 0, .b (.m true (rcs j.1.2.1 (bs.length - j.1.2.1) false)))]) (fun j => c - j.1.2.2) (⟨([], p + k, 0), hM, rfl, hk⟩) (by ((repeat (first | exact EW.subW.nil | refine EW.subW.cons rfl ?_ | refine EW.subW.conv rfl ?_ (by exact EW.kvW (pvs_snoc _ _)) | refine EW.subW.conv rfl ?_)); (first | done | fail))) ?_; rintro hcl3 ⟨⟨ps, py, n8⟩, hMy, hlen, hpy⟩; (try dsimp only))
  all_goals try (refine EW.nm ?_)
  all_goals try (refine EW.eReg (id := 3) ?_; refine EW.eLss ?_; refine EW.eEnd ?_; (try refine EW.nm ?_))
  all_goals try (first | refine EW.eYes (x := .tmp 13) ?_ | refine EW.eNo (x := .tmp 13) ?_ | (refine EW.eCond (x := .tmp 13) ?_ ?_ <;> (intro hb hb'; (try dsimp only at hb'); (try (exfalso; first | omega | with_reducible exact absurd rfl hb')))))
  all_goals try (refine EW.nm ?_)
  all_goals (try ((try dsimp only at hMy hlen hpy); have hlt : n8 < c := (by omega); rcases hMy.inv with ⟨i1, _⟩ | ⟨_, ⟨i2, x, hbr⟩, rfl, rfl⟩ | ⟨_, x, k2, i3, i4⟩; (exfalso; omega); (have hno := rnone bs q (bs.length - q) true); rotate_left; (have hbr := i3.ct; have hno := rnone bs (py + k2) (bs.length - (py + k2)) false; have ik := i3.k1); rotate_left))
  all_goals try (refine EW.eReg (id := 4) ?_; refine EW.eMove ?_; refine EW.eMove ?_; (first | (refine EW.eCallN [0, 1] Try.call75 hbr ?_)); refine EW.eAlloc ?_; (first | refine EW.eStoreW (k := 4) ?_ | refine EW.eStore (k := 4) ?_); refine EW.eEnd ?_; (try refine EW.nm ?_))
  all_goals try (refine EW.eReg (id := 5) ?_; refine EW.eMove ?_; refine EW.eCallN [0, 1] Try.call91 (hno) ?_; refine EW.eEnd ?_; (try refine EW.nm ?_))
  all_goals try (first | refine EW.eYes (x := .tmp 18) ?_ | refine EW.eNo (x := .tmp 18) ?_ | (refine EW.eCond (x := .tmp 18) ?_ ?_ <;> (intro hb hb'; (try dsimp only at hb'); (try (exfalso; first | omega | with_reducible exact absurd rfl hb')))))
  all_goals try (refine EW.nm ?_)
  all_goals try (refine EW.eReg (id := 6) ?_; refine EW.eAssign ?_; refine EW.eEnd ?_; (try refine EW.nm ?_))
  all_goals (try (refine EW.eNilGK 6 8 4 ?_))
  all_goals try (with_reducible refine EW.parkK ?_)
  all_goals try (refine EW.eReg (id := 7) ?_; refine EW.eMove ?_; refine EW.eLoadA (k := 4) ?_; refine EW.eBuildSlice (k := 4) ?_; (first | refine EW.eAppGW (z := 4) ?_ | refine EW.eAppG (z := 4) ?_ | refine EW.eAppZW (z := 4) ?_ | refine EW.eAppZ (z := 4) ?_ | refine EW.eAppSW (z := 4) ?_ | refine EW.eAppS (z := 4) ?_ | refine EW.eAppNW (z := 4) ?_ | refine EW.eAppN (z := 4) ?_); refine EW.eAssign ?_; refine EW.eEnd ?_; (try refine EW.nm ?_))
  all_goals try (refine EW.eReg (id := 8) ?_; refine EW.eAdd ?_; refine EW.eMove ?_; refine EW.eEnd ?_; (try refine EW.nm ?_))
  all_goals first | (fail_if_success (with_reducible refine EW.isLater ?_)) | (refine EW.eLaterN (⟨(ps ++ [x], py + k2, n8 + 1), i4, by dsimp only; rw [List.length_append, hlen]; rfl, ik⟩) [(5, 60)] (by dsimp only; omega) (by ((repeat (first | exact EW.subR.nil | refine EW.subR.l rfl ?_ | refine EW.subR.b rfl rfl ?_ | refine EW.subR.t rfl rfl ?_ | refine EW.subR.b rfl (by exact EW.kvW (pvs_snoc _ _)) ?_ | refine EW.subR.t rfl (by exact EW.kvW (pvs_snoc _ _)) ?_ | refine EW.subR.b rfl (by (first | exact EW.kvI (by first | omega | (dsimp only; omega)) | exact EW.kvG (by first | omega | (simp only [EW.nums_len, List.length_cons, List.length_nil, List.length_append, List.length_map, List.length_set, List.length_replicate, List.length_take, List.length_drop, List.length_range, EV.putL_length, Nat.reduceAdd, Nat.reduceMul, Nat.reduceSub]; omega)) (by first | omega | (simp only [EW.nums_len, List.length_cons, List.length_nil, List.length_append, List.length_map, List.length_set, List.length_replicate, List.length_take, List.length_drop, List.length_range, EV.putL_length, Nat.reduceAdd, Nat.reduceMul, Nat.reduceSub]; omega)) | exact EW.kvB (by simp [*]) | exact EW.kvW (by (first | rfl | simp)) | rfl)) ?_ | refine EW.subR.t rfl (by (first | exact EW.kvI (by first | omega | (dsimp only; omega)) | exact EW.kvG (by first | omega | (simp only [EW.nums_len, List.length_cons, List.length_nil, List.length_append, List.length_map, List.length_set, List.length_replicate, List.length_take, List.length_drop, List.length_range, EV.putL_length, Nat.reduceAdd, Nat.reduceMul, Nat.reduceSub]; omega)) (by first | omega | (simp only [EW.nums_len, List.length_cons, List.length_nil, List.length_append, List.length_map, List.length_set, List.length_replicate, List.length_take, List.length_drop, List.length_range, EV.putL_length, Nat.reduceAdd, Nat.reduceMul, Nat.reduceSub]; omega)) | exact EW.kvB (by simp [*]) | exact EW.kvW (by (first | rfl | simp)) | rfl)) ?_)); (first | done | fail))) (by (((repeat (first | with_reducible exact EW.Frm.refl | refine EW.Frm.upd ?_ rfl | refine EW.Frm.drp ?_ (by decide) rfl)); (first | done | fail)))) (by first | rfl | decide) (by (((repeat (first | exact True.intro | refine ⟨by (exact GV.no rfl rfl), ?_⟩)); (first | done | fail)))) (fun _ => rfl) hcl3 rfl (by ((first | (intro j n hn; cases hn; (first | done | fail)) | (intro n hn; cases hn; (first | done | fail)) | (intro j n hn; (repeat (first | (rcases List.mem_cons.1 hn with rfl | hn; (focus exact ⟨rfl, rfl⟩)) | (cases hn; (first | done | fail))))) | (intro n hn; (repeat (first | (rcases List.mem_cons.1 hn with rfl | hn; (focus exact ⟨rfl, rfl⟩)) | (cases hn; (first | done | fail)))))))))
  all_goals try (refine EW.nm ?_)
  all_goals (try ((try dsimp only at hMy hlen hpy); rcases hMy.inv with ⟨_, i1, i2, i3⟩ | ⟨i1, _⟩ | ⟨i1, _⟩; rotate_left; (exfalso; omega); (exfalso; omega); subst i1; subst i2; subst i3; subst hlen))
  all_goals try (refine EW.eReg (id := 9) ?_; refine EW.eMove ?_; refine EW.eAssign ?_; refine EW.eEnd ?_; (try refine EW.nm ?_))
  all_goals try (with_reducible refine EW.parkK ?_)
  all_goals try (refine EW.Park.mk ?_)
  all_goals first | (refine EW.eLeaveN [5] hR EW.orP (by rfl) (by rfl) ?_ ?_ rfl rfl EW.nlP rfl rfl; rotate_left 1; (· ((repeat (first | exact EW.atE.nil | refine EW.atE.lt rfl ?_ | refine EW.atE.lf ?_ | refine EW.atE.b rfl EW.SameB.refl ?_ | (refine EW.atE.b rfl ?_ ?_; rotate_left 1)))))) | (refine EW.eLeaveN [8] hR EW.orP (by rfl) (by rfl) ?_ ?_ rfl rfl EW.nlP rfl rfl; rotate_left 1; (· ((repeat (first | exact EW.atE.nil | refine EW.atE.lt rfl ?_ | refine EW.atE.lf ?_ | refine EW.atE.b rfl EW.SameB.refl ?_ | (refine EW.atE.b rfl ?_ ?_; rotate_left 1))))))
  all_goals rfl
theorem many_of {bs : List Int} {m p q : Nat} {r : List Px} {f : Bool} (hy : By bs) (hl : bs.length ≤ 1000000) (hp : p ≤ bs.length) (hm : m ≤ 4096) (h : ManyR bs m p r q f) : ManyC bs m p r q f := by
  cases h with
  | no h => exact many_no bs m _ hy hl hp hm h
  | ok h k0 k1 hc hM _ => exact many_ok bs m p _ _ r q f hy hl hp hm h k1 hc hM
end Go.Proofs.Ytnmkpekfkfckoaa
