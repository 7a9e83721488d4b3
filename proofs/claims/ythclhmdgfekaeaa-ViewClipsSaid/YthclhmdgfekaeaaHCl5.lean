/- Package clip: lists of vertices: what cutting comes to. -/
import Derived.Test.YthclhmdgfekaeaaHCl4
import Derived.Test.YthclhmdgfekaeaaHEw7
namespace Go.Proofs.Ythclhmdgfekaeaa
open Go.RowKit EV
set_option maxRecDepth 20000
abbrev Vx.sm (v : Vx) : Prop := Sm4 v.x v.y v.z v.q
def Vx.ds (p : Int) (v : Vx) : Int := dsV p v.x v.y v.z v.q
def Vx.cr (p : Int) (a b : Vx) : Vx := ⟨a.x + cq (b.x - a.x) (a.ds p) (a.ds p - b.ds p), a.y + cq (b.y - a.y) (a.ds p) (a.ds p - b.ds p), a.z + cq (b.z - a.z) (a.ds p) (a.ds p - b.ds p), a.q + cq (b.q - a.q) (a.ds p) (a.ds p - b.ds p)⟩
/-- What one edge leaves. -/
def stepL (p : Int) (a b : Vx) : List Vx :=
  if 0 ≤ a.ds p then (if 0 ≤ b.ds p then [a] else [a, a.cr p b]) else (if 0 ≤ b.ds p then [b.cr p a] else [])
def nxt (l : List Vx) (i : Nat) : Vx := l.getD ((i + 1) % l.length) Vx.zero
def cutK (p : Int) (l : List Vx) (k : Nat) : List Vx := (List.range k).flatMap fun i => stepL p (l.getD i Vx.zero) (nxt l i)
def cutL (p : Int) (l : List Vx) : List Vx := cutK p l l.length
theorem cutK_succ (p : Int) (l : List Vx) (k : Nat) : cutK p l (k + 1) = cutK p l k ++ stepL p (l.getD k Vx.zero) (nxt l k) := by
  simp [cutK, List.range_succ]
theorem stepL_len (p : Int) (a b : Vx) : (stepL p a b).length ≤ 2 := by
  unfold stepL
  repeat' split
  all_goals simp
theorem cutK_len (p : Int) (l : List Vx) : ∀ k, (cutK p l k).length ≤ 2 * k
  | 0 => by simp [cutK]
  | k + 1 => by
    have := cutK_len p l k
    have := stepL_len p (l.getD k Vx.zero) (nxt l k)
    rw [cutK_succ, List.length_append]; omega
theorem getD_mem {l : List Vx} {i : Nat} (h : i < l.length) : l.getD i Vx.zero ∈ l := by
  rw [List.getD_eq_getElem?_getD, List.getElem?_eq_getElem h]; exact List.getElem_mem h
theorem nxt_mem {l : List Vx} {i : Nat} (h : i < l.length) : nxt l i ∈ l := getD_mem (Nat.mod_lt _ (by omega))
theorem cutL_mem {p : Int} {l : List Vx} {v : Vx} (h : v ∈ cutL p l) : ∃ a ∈ l, ∃ b ∈ l, v ∈ stepL p a b := by
  unfold cutL cutK at h
  rw [List.mem_flatMap] at h
  obtain ⟨i, hi, h⟩ := h
  have hi' := List.mem_range.1 hi
  exact ⟨_, getD_mem hi', _, nxt_mem hi', h⟩
theorem cr_sm {p : Int} {a b : Vx} (ha : a.sm) (hB : b.sm) (h0 : 0 ≤ a.ds p) (h1 : b.ds p < 0) : (a.cr p b).sm :=
  ⟨sm_btw ha.1 hB.1 (btw h0 h1), sm_btw ha.2.1 hB.2.1 (btw h0 h1), sm_btw ha.2.2.1 hB.2.2.1 (btw h0 h1), sm_btw ha.2.2.2 hB.2.2.2 (btw h0 h1)⟩
/-- What is left: a vertex that was, or a crossing. -/
theorem stepL_or {p : Int} {a b v : Vx} (h : v ∈ stepL p a b) : (v = a ∧ 0 ≤ a.ds p) ∨ (v = a.cr p b ∧ 0 ≤ a.ds p ∧ b.ds p < 0) ∨ (v = b.cr p a ∧ 0 ≤ b.ds p ∧ a.ds p < 0) := by
  unfold stepL at h
  split at h <;> split at h <;> simp at h <;> rename_i h1 h2
  · exact .inl ⟨h, h1⟩
  · rcases h with h | h
    · exact .inl ⟨h, h1⟩
    · exact .inr (.inl ⟨h, h1, by omega⟩)
  · exact .inr (.inr ⟨h, h2, by omega⟩)
theorem cutL_sm {p : Int} {l : List Vx} (h : ∀ v ∈ l, v.sm) : ∀ v ∈ cutL p l, v.sm := fun v hv => by
  obtain ⟨a, ha, b, hb, hs⟩ := cutL_mem hv
  rcases stepL_or hs with ⟨rfl, _⟩ | ⟨rfl, h0, h1⟩ | ⟨rfl, h0, h1⟩
  · exact h _ ha
  · exact cr_sm (h _ ha) (h _ hb) h0 h1
  · exact cr_sm (h _ hb) (h _ ha) h0 h1
/-- What is left behind the first planes. -/
def clipK (l : List Vx) : Nat → List Vx
  | 0 => l
  | k + 1 => cutL k (clipK l k)
theorem clipK_sm {l : List Vx} (h : ∀ v ∈ l, v.sm) : ∀ k, ∀ v ∈ clipK l k, v.sm
  | 0 => h
  | k + 1 => cutL_sm (clipK_sm h k)
theorem step_cases (p : Int) (a b : Vx) : (0 ≤ a.ds p ∧ 0 ≤ b.ds p ∧ stepL p a b = [a]) ∨ (0 ≤ a.ds p ∧ b.ds p < 0 ∧ stepL p a b = [a, a.cr p b]) ∨ (a.ds p < 0 ∧ 0 ≤ b.ds p ∧ stepL p a b = [b.cr p a]) ∨ (a.ds p < 0 ∧ b.ds p < 0 ∧ stepL p a b = []) := by
  unfold stepL
  rcases Int.lt_or_le (a.ds p) 0 with h | h <;> rcases Int.lt_or_le (b.ds p) 0 with h' | h'
  · rw [if_neg (by omega), if_neg (by omega)]; exact .inr (.inr (.inr ⟨h, h', rfl⟩))
  · rw [if_neg (by omega), if_pos (by omega)]; exact .inr (.inr (.inl ⟨h, h', rfl⟩))
  · rw [if_pos (by omega), if_neg (by omega)]; exact .inr (.inl ⟨h, h', rfl⟩)
  · rw [if_pos (by omega), if_pos (by omega)]; exact .inl ⟨h, h', rfl⟩
section
variable {p : Int} {l : List Vx} {i k : Nat}
theorem cut_s0 (hk : (i + 1) % l.length = k) (h : stepL p (l.getD i Vx.zero) (l.getD k Vx.zero) = []) : cutK p l i = cutK p l (i + 1) := by
  rw [cutK_succ, nxt, hk, h, List.append_nil]
theorem cut_s1 {v : Vx} (hk : (i + 1) % l.length = k) (h : stepL p (l.getD i Vx.zero) (l.getD k Vx.zero) = [v]) : vvs (cutK p l i) ++ [.int .i64 v.x, .int .i64 v.y, .int .i64 v.z, .int .i64 v.q] = vvs (cutK p l (i + 1)) := by
  rw [cutK_succ, nxt, hk, h, vvs_snoc]
theorem cut_n1 {v : Vx} (hk : (i + 1) % l.length = k) (h : stepL p (l.getD i Vx.zero) (l.getD k Vx.zero) = [v]) : (cutK p l i).length + 1 = (cutK p l (i + 1)).length := by
  rw [cutK_succ, nxt, hk, h, List.length_append]; rfl
theorem cut_s2 {u v : Vx} (hk : (i + 1) % l.length = k) (h : stepL p (l.getD i Vx.zero) (l.getD k Vx.zero) = [u, v]) : vvs (cutK p l i) ++ [.int .i64 u.x, .int .i64 u.y, .int .i64 u.z, .int .i64 u.q] ++ [.int .i64 v.x, .int .i64 v.y, .int .i64 v.z, .int .i64 v.q] = vvs (cutK p l (i + 1)) := by
  rw [cutK_succ, nxt, hk, h, vvs_snoc, vvs_snoc, List.append_assoc]; rfl
theorem cut_n2 {u v : Vx} (hk : (i + 1) % l.length = k) (h : stepL p (l.getD i Vx.zero) (l.getD k Vx.zero) = [u, v]) : (cutK p l i).length + 1 + 1 = (cutK p l (i + 1)).length := by
  rw [cutK_succ, nxt, hk, h, List.length_append]; rfl
end
def ind (p : Int) (v : Vx) : Int := if 0 ≤ v.ds p then 1 else 0
theorem cut_count (p : Int) (l : List Vx) : ∀ k, k < l.length → ∃ I io oi : Nat, (cutK p l k).length = I + io + oi ∧ I ≤ k ∧ io ≤ I ∧ oi + I ≤ k ∧ (io : Int) - oi = ind p (l.getD 0 Vx.zero) - ind p (l.getD k Vx.zero)
  | 0, _ => ⟨0, 0, 0, by simp [cutK], by omega, by omega, by omega, by simp⟩
  | k + 1, hk => by
    obtain ⟨I, io, oi, h1, h2, h3, h4, h5⟩ := cut_count p l k (by omega)
    rw [cutK_succ, List.length_append, h1, nxt, Nat.mod_eq_of_lt hk]
    rcases step_cases p (l.getD k Vx.zero) (l.getD (k + 1) Vx.zero) with ⟨c0, c1, c2⟩ | ⟨c0, c1, c2⟩ | ⟨c0, c1, c2⟩ | ⟨c0, c1, c2⟩
    · refine ⟨I + 1, io, oi, by rw [c2]; simp only [List.length_cons, List.length_nil]; omega, by omega, by omega, by omega, ?_⟩
      have e1 : ind p (l.getD k Vx.zero) = 1 := if_pos c0
      have e2 : ind p (l.getD (k + 1) Vx.zero) = 1 := if_pos c1
      rw [e2]; rw [e1] at h5; exact h5
    · refine ⟨I + 1, io + 1, oi, by rw [c2]; simp only [List.length_cons, List.length_nil]; omega, by omega, by omega, by omega, ?_⟩
      have e1 : ind p (l.getD k Vx.zero) = 1 := if_pos c0
      have e2 : ind p (l.getD (k + 1) Vx.zero) = 0 := if_neg (by omega)
      rw [e2]; rw [e1] at h5; omega
    · refine ⟨I, io, oi + 1, by rw [c2]; simp only [List.length_cons, List.length_nil]; omega, by omega, by omega, by omega, ?_⟩
      have e1 : ind p (l.getD k Vx.zero) = 0 := if_neg (by omega)
      have e2 : ind p (l.getD (k + 1) Vx.zero) = 1 := if_pos c1
      rw [e2]; rw [e1] at h5; omega
    · refine ⟨I, io, oi, by rw [c2]; simp only [List.length_cons, List.length_nil]; omega, by omega, by omega, by omega, ?_⟩
      have e1 : ind p (l.getD k Vx.zero) = 0 := if_neg (by omega)
      have e2 : ind p (l.getD (k + 1) Vx.zero) = 0 := if_neg (by omega)
      rw [e2]; rw [e1] at h5; omega
theorem cutL_len (p : Int) (l : List Vx) : 2 * (cutL p l).length ≤ 3 * l.length := by
  rcases Nat.eq_zero_or_pos l.length with h0 | h0
  · have := cutK_len p l l.length
    unfold cutL; omega
  · obtain ⟨k, hk⟩ : ∃ k, l.length = k + 1 := ⟨l.length - 1, by omega⟩
    obtain ⟨I, io, oi, h1, h2, h3, h4, h5⟩ := cut_count p l k (by omega)
    unfold cutL
    rw [hk, cutK_succ, List.length_append, h1, nxt, hk, Nat.mod_self]
    rcases step_cases p (l.getD k Vx.zero) (l.getD 0 Vx.zero) with ⟨c0, c1, c2⟩ | ⟨c0, c1, c2⟩ | ⟨c0, c1, c2⟩ | ⟨c0, c1, c2⟩
    · have e1 : ind p (l.getD k Vx.zero) = 1 := if_pos c0
      have e2 : ind p (l.getD 0 Vx.zero) = 1 := if_pos c1
      rw [e1, e2] at h5; rw [c2]; simp only [List.length_cons, List.length_nil]; omega
    · have e1 : ind p (l.getD k Vx.zero) = 1 := if_pos c0
      have e2 : ind p (l.getD 0 Vx.zero) = 0 := if_neg (by omega)
      rw [e1, e2] at h5; rw [c2]; simp only [List.length_cons, List.length_nil]; omega
    · have e1 : ind p (l.getD k Vx.zero) = 0 := if_neg (by omega)
      have e2 : ind p (l.getD 0 Vx.zero) = 1 := if_pos c1
      rw [e1, e2] at h5; rw [c2]; simp only [List.length_cons, List.length_nil]; omega
    · have e1 : ind p (l.getD k Vx.zero) = 0 := if_neg (by omega)
      have e2 : ind p (l.getD 0 Vx.zero) = 0 := if_neg (by omega)
      rw [e1, e2] at h5; rw [c2]; simp only [List.length_cons, List.length_nil]; omega
theorem clipK_42 {l : List Vx} (h : l.length = 3) : ∀ k, k ≤ 7 → (clipK l k).length ≤ 42 := by
  have h0 : (clipK l 0).length = 3 := h
  have s : ∀ k, 2 * (clipK l (k + 1)).length ≤ 3 * (clipK l k).length := fun k => cutL_len k _
  have s0 : 2 * (clipK l 1).length ≤ 3 * (clipK l 0).length := s 0
  have s1 : 2 * (clipK l 2).length ≤ 3 * (clipK l 1).length := s 1
  have s2 : 2 * (clipK l 3).length ≤ 3 * (clipK l 2).length := s 2
  have s3 : 2 * (clipK l 4).length ≤ 3 * (clipK l 3).length := s 3
  have s4 : 2 * (clipK l 5).length ≤ 3 * (clipK l 4).length := s 4
  have s5 : 2 * (clipK l 6).length ≤ 3 * (clipK l 5).length := s 5
  have s6 : 2 * (clipK l 7).length ≤ 3 * (clipK l 6).length := s 6
  intro k hk
  match k, hk with
  | 0, _ => omega
  | 1, _ => omega
  | 2, _ => omega
  | 3, _ => omega
  | 4, _ => omega
  | 5, _ => omega
  | 6, _ => omega
  | 7, _ => omega
end Go.Proofs.Ythclhmdgfekaeaa
