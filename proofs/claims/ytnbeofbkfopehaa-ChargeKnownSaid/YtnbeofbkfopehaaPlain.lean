/-
  What asked answers: plain lists.
-/
namespace Go.Proofs.Ytnbeofbkfopehaa

def grpB (x : Int) : Bool := decide (1 ≤ x ∧ x ≤ 16)
def allG (xs : List Int) : Bool := xs.all grpB
def fitB (xs : List Int) (n : Int) : Bool := decide (xs.Nodup) && decide (1 ≤ xs.length ∧ xs.length ≤ 8 ∧ 0 ≤ n ∧ n ≤ 9007199254740991)
/-- 0, 110 (no group), 2 (no path, no bytes). -/
def askF (xs : List Int) (n : Int) : Int := bif allG xs then bif fitB xs n then 0 else 2 else 110

theorem grpB_iff {x : Int} : grpB x = true ↔ 1 ≤ x ∧ x ≤ 16 := by simp [grpB]
theorem askF_no {xs : List Int} {n : Int} (h : allG xs = false) : askF xs n = 110 := by unfold askF; rw [h]; rfl
theorem askF_bad {xs : List Int} {n : Int} (h : allG xs = true) (h2 : fitB xs n = false) : askF xs n = 2 := by unfold askF; rw [h, h2]; rfl
theorem askF_ok {xs : List Int} {n : Int} (h : allG xs = true) (h2 : fitB xs n = true) : askF xs n = 0 := by unfold askF; rw [h, h2]; rfl
theorem askF_zero {xs : List Int} {n : Int} : askF xs n = 0 ↔ allG xs = true ∧ fitB xs n = true := by
  cases h : allG xs
  · rw [askF_no h]; simp
  · cases h2 : fitB xs n
    · rw [askF_bad h h2]; simp
    · rw [askF_ok h h2]; simp
theorem allG_at {xs : List Int} (h : allG xs = true) {k : Nat} (hk : k < xs.length) : 1 ≤ xs[k] ∧ xs[k] ≤ 16 := by
  unfold allG at h
  exact grpB_iff.1 (List.all_eq_true.1 h _ (List.getElem_mem hk))
theorem allG_end {xs : List Int} {k : Nat} (h : xs.length ≤ k) : allG (xs.drop k) = true := by rw [List.drop_eq_nil_of_le h]; rfl
theorem allG_step {xs : List Int} {k : Nat} (h : k < xs.length) : allG (xs.drop k) = (grpB xs[k] && allG (xs.drop (k + 1))) := by
  rw [List.drop_eq_getElem_cons h]; rfl
theorem fitB_iff {xs : List Int} {n : Int} : fitB xs n = true ↔ xs.Nodup ∧ 1 ≤ xs.length ∧ xs.length ≤ 8 ∧ 0 ≤ n ∧ n ≤ 9007199254740991 := by simp [fitB]
/-- Group k + 1 is among the first j. -/
def seenB (xs : List Int) (j k : Nat) : Bool := (xs.take j).contains ((k : Int) + 1)
theorem seenB_zero (xs : List Int) (k : Nat) : seenB xs 0 k = false := by simp [seenB]
theorem seenB_next {xs : List Int} {j k : Nat} (h : j < xs.length) : seenB xs (j + 1) k = (seenB xs j k || decide (xs[j] = (k : Int) + 1)) := by
  unfold seenB
  rw [List.take_succ_eq_append_getElem h, Bool.eq_iff_iff]
  simp only [List.contains_iff_mem, List.mem_append, List.mem_singleton, Bool.or_eq_true, decide_eq_true_eq]
  constructor
  · rintro (h | h)
    · exact .inl h
    · exact .inr h.symm
  · rintro (h | h)
    · exact .inl h
    · exact .inr h.symm
theorem nodup_next {xs : List Int} {j k : Nat} (h : j < xs.length) (hk : xs[j] = (k : Int) + 1) : decide ((xs.take (j + 1)).Nodup) = (decide ((xs.take j).Nodup) && !seenB xs j k) := by
  rw [List.take_succ_eq_append_getElem h, Bool.eq_iff_iff]
  unfold seenB
  simp only [decide_eq_true_eq, List.nodup_append, Bool.and_eq_true, Bool.not_eq_true', hk]
  constructor
  · rintro ⟨h1, -, h3⟩
    refine ⟨h1, ?_⟩
    rw [← Bool.not_eq_true, List.contains_iff_mem]
    intro hm
    exact h3 _ hm _ (List.mem_singleton.2 rfl) rfl
  · rintro ⟨h1, h2⟩
    refine ⟨h1, by simp, ?_⟩
    rw [← Bool.not_eq_true, List.contains_iff_mem] at h2
    intro a ha b hb e
    rw [List.mem_singleton] at hb
    subst hb e
    exact h2 ha

end Go.Proofs.Ytnbeofbkfopehaa
