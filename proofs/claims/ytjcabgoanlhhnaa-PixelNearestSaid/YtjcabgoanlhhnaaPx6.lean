/- The order of pixels: plain laws. -/
import Derived.Test.YtjcabgoanlhhnaaPx5
namespace Go.Proofs.Ytjcabgoanlhhnaa
theorem Px.rcmp_eq (a b : Px) : a.cmp b = a.rcmp b := by
  obtain ⟨z, o, t, c⟩ := a
  obtain ⟨z', o', t', c'⟩ := b
  simp only [Px.cmp, Px.rcmp, Px.ahead, or4, cmpI]
  repeat' split
  all_goals first | rfl | omega
theorem Px.ahead_irrefl (a : Px) : ¬ a.ahead a := by unfold Px.ahead; omega
theorem Px.ahead_trans {a b c : Px} (h : a.ahead b) (h' : b.ahead c) : a.ahead c := by unfold Px.ahead at *; omega
theorem Px.ahead_asymm {a b : Px} (h : a.ahead b) : ¬ b.ahead a := by unfold Px.ahead at *; omega
theorem Px.ahead_total {a b : Px} (h : ¬ a.ahead b) (h' : ¬ b.ahead a) : a = b := by
  refine Px.ext4 ?_
  unfold Px.ahead at *; omega
theorem Px.cmp_lt (a b : Px) : a.cmp b < 0 ↔ a.ahead b := by
  rw [Px.rcmp_eq, Px.rcmp]
  by_cases h : a.ahead b
  · simp [h]
  · simp only [h, if_false, iff_false]; split <;> omega
theorem Px.near_eq (a b : Px) : a.near b = if b.ahead a then b else a := by
  unfold Px.near
  by_cases h : b.ahead a
  · rw [if_pos ((Px.cmp_lt _ _).2 h), if_pos h]
  · rw [if_neg (fun h' => h ((Px.cmp_lt _ _).1 h')), if_neg h]
theorem Px.rcmp_gt (a b : Px) : 0 < a.rcmp b ↔ b.ahead a := by
  unfold Px.rcmp
  by_cases h : a.ahead b
  · have := Px.ahead_asymm h; simp [h, this]
  · by_cases h' : b.ahead a
    · simp [h, h']
    · simp [h, h']
theorem Px.near_hi {a b : Px} {r : Int} (h : a.rcmp b = r) (hr : 0 < r) : a.near b = b := by
  rw [Px.near_eq, if_pos]; rw [← h] at hr; exact (Px.rcmp_gt _ _).1 hr
theorem Px.near_lo {a b : Px} {r : Int} (h : a.rcmp b = r) (hr : ¬ 0 < r) : a.near b = a := by
  rw [Px.near_eq, if_neg]; rw [← h] at hr; exact fun h' => hr ((Px.rcmp_gt _ _).2 h')
/-- a stands at least as near as b. -/
def Px.le (a b : Px) : Prop := ¬ b.ahead a
theorem Px.le_refl (a : Px) : a.le a := Px.ahead_irrefl a
theorem Px.le_trans {a b c : Px} (h : a.le b) (h' : b.le c) : a.le c := by unfold Px.le Px.ahead at *; omega
theorem Px.le_antisymm {a b : Px} (h : a.le b) (h' : b.le a) : a = b := (Px.ahead_total (a := b) (b := a) h h').symm
theorem Px.near_le1 (a b : Px) : (a.near b).le a := by
  rw [Px.near_eq]; split
  · next h => exact Px.ahead_asymm h
  · exact Px.le_refl _
theorem Px.near_le2 (a b : Px) : (a.near b).le b := by
  rw [Px.near_eq]; split
  · exact Px.le_refl _
  · next h => exact h
theorem Px.near_mem (a b : Px) : a.near b = a ∨ a.near b = b := by
  rw [Px.near_eq]; split <;> simp
/-- Of many: the nearest. -/
theorem fold_near : ∀ (l : List Px) (p : Px), (l.foldl Px.near p).le p ∧ (∀ q ∈ l, (l.foldl Px.near p).le q) ∧ (l.foldl Px.near p = p ∨ l.foldl Px.near p ∈ l)
  | [], p => ⟨Px.le_refl p, by simp, .inl rfl⟩
  | x :: l, p => by
    obtain ⟨h1, h2, h3⟩ := fold_near l (p.near x)
    simp only [List.foldl_cons]
    refine ⟨Px.le_trans h1 (Px.near_le1 _ _), fun q hq => ?_, ?_⟩
    · rcases List.mem_cons.1 hq with rfl | hq
      · exact Px.le_trans h1 (Px.near_le2 _ _)
      · exact h2 q hq
    · rcases h3 with h3 | h3
      · rw [h3]
        rcases Px.near_mem p x with h4 | h4 <;> simp [h4]
      · simp [h3]
theorem least_mem {l : List Px} (h : l ≠ []) : least l ∈ l ∧ ∀ q ∈ l, (least l).le q := by
  cases l with
  | nil => exact absurd rfl h
  | cons p r =>
    obtain ⟨h1, h2, h3⟩ := fold_near (p :: r) p
    refine ⟨?_, h2⟩
    rcases h3 with h3 | h3
    · show List.foldl _ _ _ ∈ _; rw [h3]; simp
    · exact h3
theorem least_unique {l : List Px} {p : Px} (hp : p ∈ l) (h : ∀ q ∈ l, p.le q) : p = least l := by
  obtain ⟨h1, h2⟩ := least_mem (l := l) (by intro h0; subst h0; cases hp)
  exact Px.le_antisymm (h _ h1) (h2 _ hp)
theorem rleast_eq (l : List Px) : rleast l = least l := by
  unfold rleast
  by_cases h0 : l = []
  · subst h0; rfl
  obtain ⟨h1, h2⟩ := least_mem h0
  cases hf : l.find? (fun p => l.all fun q => !decide (q.ahead p)) with
  | none =>
    rw [List.find?_eq_none] at hf
    exact absurd (by rw [List.all_eq_true]; intro q hq; simpa [Px.le] using h2 q hq) (hf _ h1)
  | some p =>
    have h3 := List.find?_some hf
    refine least_unique (List.mem_of_find?_eq_some hf) fun q hq => ?_
    rw [List.all_eq_true] at h3
    simpa [Px.le] using h3 q hq
end Go.Proofs.Ytjcabgoanlhhnaa
