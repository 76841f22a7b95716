/-
  Bytes around an object, and where they are not as they must be: plain lists.
-/
namespace Go.Proofs.Ytindgcbnpbhciaa

/-- Byte k of an object of size n: around it, in it, last in it. -/
def layF (n : Nat) (a o l : Int) (k : Nat) : Int := if k < 8 ∨ n + 8 ≤ k then a else if k = n + 7 then l else o
def layL (n : Nat) (a o l : Int) : List Int := (List.range (n + 16)).map (layF n a o l)
theorem layL_len (n : Nat) (a o l : Int) : (layL n a o l).length = n + 16 := by simp [layL]
theorem layL_at {n : Nat} {a o l : Int} {k : Nat} (h : k < n + 16) : (layL n a o l)[k]? = some (layF n a o l k) := by
  unfold layL
  rw [List.getElem?_map, List.getElem?_range h]
  rfl
theorem layL_get {n : Nat} {a o l : Int} {k : Nat} (h : k < (layL n a o l).length) : (layL n a o l)[k] = layF n a o l k := by
  have h1 := layL_at (a := a) (o := o) (l := l) (show k < n + 16 by rw [← layL_len n a o l]; exact h)
  rw [List.getElem?_eq_getElem h] at h1
  exact Option.some.inj h1
theorem layL_cat (n : Nat) (a o : Int) : List.replicate 8 a ++ (List.replicate n o ++ List.replicate 8 a) = layL n a o o := by
  apply List.ext_getElem?
  intro k
  by_cases hk : k < n + 16
  · rw [layL_at hk]
    unfold layF
    by_cases h8 : k < 8
    · rw [List.getElem?_append_left (by simp; omega), if_pos (Or.inl h8), List.getElem?_replicate, if_pos h8]
    · rw [List.getElem?_append_right (by simp; omega), List.length_replicate]
      by_cases hn : k < n + 8
      · rw [List.getElem?_append_left (by simp; omega), if_neg (by omega)]
        rw [List.getElem?_replicate, if_pos (by omega)]
        split <;> rfl
      · rw [List.getElem?_append_right (by simp; omega), if_pos (by omega), List.getElem?_replicate, if_pos (by simp; omega)]
  · rw [List.getElem?_eq_none (by simp; omega), List.getElem?_eq_none (by rw [layL_len]; omega)]
theorem layL_set (n : Nat) (h : 1 ≤ n) (a o l : Int) : (layL n a o o).set (8 + n - 1) l = layL n a o l := by
  apply List.ext_getElem?
  intro k
  rw [List.getElem?_set]
  by_cases hk : k < n + 16
  · by_cases hkn : 8 + n - 1 = k
    · rw [if_pos hkn, if_pos (by rw [layL_len]; omega), layL_at (l := l) hk]
      unfold layF
      rw [if_neg (by omega), if_pos (by omega)]
    · rw [if_neg hkn, layL_at hk, layL_at (l := l) hk]
      unfold layF
      by_cases h2 : k < 8 ∨ n + 8 ≤ k
      · rw [if_pos h2, if_pos h2]
      · rw [if_neg h2, if_neg h2, if_neg (by omega), if_neg (by omega)]
  · rw [List.getElem?_eq_none (by rw [layL_len]; omega), List.getElem?_eq_none (by rw [layL_len]; omega)]
    split
    · split
      · rename_i h1 h2; rw [layL_len] at h2; omega
      · rfl
    · rfl

/-- Numbers that are bytes. -/
def By (xs : List Int) : Prop := ∀ x ∈ xs, 0 ≤ x ∧ x ≤ 255
theorem layL_by {n : Nat} {a o l : Int} (ha : 0 ≤ a ∧ a ≤ 255) (ho : 0 ≤ o ∧ o ≤ 255) (hl : 0 ≤ l ∧ l ≤ 255) : By (layL n a o l) := by
  intro x hx
  unfold layL at hx
  obtain ⟨k, -, rfl⟩ := List.mem_map.1 hx
  unfold layF
  split
  · exact ha
  · split
    · exact hl
    · exact ho

/-- The first place, of m from i on, at which f is true. -/
def firstB (f : Nat → Bool) : Nat → Nat → Option Nat
  | _, 0 => none
  | i, m + 1 => bif f i then some i else firstB f (i + 1) m
theorem firstB_none {f : Nat → Bool} : ∀ {m i : Nat}, firstB f i m = none ↔ ∀ k, i ≤ k → k < i + m → f k = false
  | 0, i => by
    constructor
    · intro _ k h1 h2; omega
    · intro _; rfl
  | m + 1, i => by
    cases hf : f i
    · rw [show firstB f i (m + 1) = firstB f (i + 1) m by simp [firstB, hf], firstB_none]
      constructor
      · intro h k h1 h2
        by_cases hk : k = i
        · rw [hk]; exact hf
        · exact h k (by omega) (by omega)
      · intro h k h1 h2; exact h k (by omega) (by omega)
    · rw [show firstB f i (m + 1) = some i by simp [firstB, hf]]
      constructor
      · intro h; cases h
      · intro h; rw [h i (by omega) (by omega)] at hf; cases hf
theorem firstB_some {f : Nat → Bool} : ∀ {m i k : Nat}, firstB f i m = some k ↔ (i ≤ k ∧ k < i + m ∧ f k = true ∧ ∀ j, i ≤ j → j < k → f j = false)
  | 0, i, k => by
    constructor
    · intro h; cases h
    · rintro ⟨h1, h2, -, -⟩; omega
  | m + 1, i, k => by
    cases hf : f i
    · rw [show firstB f i (m + 1) = firstB f (i + 1) m by simp [firstB, hf], firstB_some]
      constructor
      · rintro ⟨h1, h2, h3, h4⟩
        refine ⟨by omega, by omega, h3, fun j h5 h6 => ?_⟩
        by_cases hj : j = i
        · rw [hj]; exact hf
        · exact h4 j (by omega) h6
      · rintro ⟨h1, h2, h3, h4⟩
        have hk : i ≠ k := fun e => by rw [← e, hf] at h3; cases h3
        exact ⟨by omega, by omega, h3, fun j h5 h6 => h4 j (by omega) h6⟩
    · rw [show firstB f i (m + 1) = some i by simp [firstB, hf]]
      constructor
      · intro h
        obtain rfl := Option.some.inj h
        exact ⟨Nat.le_refl _, by omega, hf, fun j h5 h6 => by omega⟩
      · rintro ⟨h1, h2, h3, h4⟩
        by_cases hk : i = k
        · rw [hk]
        · rw [h4 i (by omega) (by omega)] at hf; cases hf
theorem firstB_congr {f g : Nat → Bool} {m i : Nat} (h : ∀ k, i ≤ k → k < i + m → f k = g k) : firstB f i m = firstB g i m := by
  cases hf : firstB f i m with
  | none => exact (firstB_none.2 fun k h1 h2 => by rw [← h k h1 h2]; exact firstB_none.1 hf k h1 h2).symm
  | some k =>
    obtain ⟨h1, h2, h3, h4⟩ := firstB_some.1 hf
    exact (firstB_some.2 ⟨h1, h2, by rw [← h k h1 h2]; exact h3, fun j h5 h6 => by rw [← h j h5 (by omega)]; exact h4 j h5 h6⟩).symm

/-- Is byte k another one than it must be? -/
def badF (out : Bool) (xs : List Int) (k : Nat) : Bool :=
  bif out then decide (k < 8 ∨ xs.length - 8 ≤ k) && (xs.getD k 0 != 204) else xs.getD k 0 != layF (xs.length - 16) 187 107 165 k
def sizeOk (n : Nat) : Bool := decide (17 ≤ n ∧ n ≤ 1040)
/-- What Check answers: the place. -/
def chkA (out : Bool) (xs : List Int) : Int := bif sizeOk xs.length then (match firstB (badF out xs) 0 xs.length with | none => 0 | some k => (k : Int)) else 0
/-- .. the error. -/
def chkE (out : Bool) (xs : List Int) : Int := bif sizeOk xs.length then (match firstB (badF out xs) 0 xs.length with | none => 0 | some _ => 180) else 2
theorem chk_size {out : Bool} {xs : List Int} (h : sizeOk xs.length = false) : chkA out xs = 0 ∧ chkE out xs = 2 := by unfold chkA chkE; rw [h]; exact ⟨rfl, rfl⟩
theorem chk_none {out : Bool} {xs : List Int} (h : sizeOk xs.length = true) (hf : firstB (badF out xs) 0 xs.length = none) : chkA out xs = 0 ∧ chkE out xs = 0 := by unfold chkA chkE; rw [h, hf]; exact ⟨rfl, rfl⟩
theorem chk_some {out : Bool} {xs : List Int} {k : Nat} (h : sizeOk xs.length = true) (hf : firstB (badF out xs) 0 xs.length = some k) : chkA out xs = k ∧ chkE out xs = 180 := by unfold chkA chkE; rw [h, hf]; exact ⟨rfl, rfl⟩
theorem sizeOk_iff {n : Nat} : sizeOk n = true ↔ 17 ≤ n ∧ n ≤ 1040 := by simp [sizeOk]

end Go.Proofs.Ytindgcbnpbhciaa
