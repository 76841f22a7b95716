/-
  What Check answers of objects as they are laid; what Out and Back answer: plain lists.
-/
import Derived.Test.YtindgcbnpbhciaaRefC
namespace Go.Proofs.Ytindgcbnpbhciaa

theorem lay_getD {n : Nat} {a o l : Int} {k : Nat} (h : k < n + 16) : (layL n a o l).getD k 0 = layF n a o l k := by
  rw [List.getD_eq_getElem?_getD, layL_at h]; rfl
/-- An object as it is laid is in. -/
theorem lay_in {s : Nat} (h1 : 1 ≤ s) (h2 : s ≤ 1024) : chkE false (layL s 187 107 165) = 0 := by
  refine (chk_none (sizeOk_iff.2 (by rw [layL_len]; omega)) (firstB_none.2 fun k _ hk => ?_)).2
  rw [layL_len] at hk
  rw [bad_lay (layL_len ..), lay_getD (by omega)]
  simp
/-- What has 204 around it is out. -/
theorem out_in {xs : List Int} {s : Nat} (hn : xs.length = s + 16) (h1 : 1 ≤ s) (h2 : s ≤ 1024) (h : ∀ k, k < s + 16 → (k < 8 ∨ s + 8 ≤ k) → xs[k]? = some 204) : chkE true xs = 0 := by
  refine (chk_none (sizeOk_iff.2 (by omega)) (firstB_none.2 fun k _ hk => ?_)).2
  rw [hn] at hk
  by_cases hq : k < 8 ∨ s + 8 ≤ k
  · exact (bad_out' hn (by omega) hq).2 (h k (by omega) hq)
  · exact bad_mid hn hq
theorem chk_vals (out : Bool) (xs : List Int) : chkE out xs = 0 ∨ chkE out xs = 2 ∨ chkE out xs = 180 := by
  cases hs : sizeOk xs.length
  · exact .inr (.inl (chk_size hs).2)
  · cases hf : firstB (badF out xs) 0 xs.length with
    | none => exact .inl (chk_none hs hf).2
    | some k => exact .inr (.inr (chk_some hs hf).2)
theorem chk_first {out : Bool} {xs : List Int} (h : chkE out xs = 0) : 17 ≤ xs.length ∧ xs.length ≤ 1040 ∧ badF out xs 0 = false := by
  cases hs : sizeOk xs.length
  · rw [(chk_size hs).2] at h; omega
  · cases hf : firstB (badF out xs) 0 xs.length with
    | none =>
      obtain ⟨h1, h2⟩ := sizeOk_iff.1 hs
      exact ⟨h1, h2, firstB_none.1 hf 0 (Nat.le_refl _) (by omega)⟩
    | some k => rw [(chk_some hs hf).2] at h; omega
/-- One place that is bad: it is told. -/
theorem chk_bad0 {out : Bool} {xs : List Int} (h1 : 17 ≤ xs.length) (h2 : xs.length ≤ 1040) (hb : badF out xs 0 = true) : chkE out xs = 180 :=
  (chk_some (sizeOk_iff.2 ⟨h1, h2⟩) (firstB_some.2 ⟨Nat.le_refl _, by omega, hb, fun j _ hj => absurd hj (Nat.not_lt_zero j)⟩)).2
theorem in_not_out {xs : List Int} (h : chkE false xs = 0) : chkE true xs = 180 := by
  obtain ⟨h1, h2, h3⟩ := chk_first h
  obtain ⟨s, hs⟩ : ∃ s, xs.length = s + 16 := ⟨xs.length - 16, by omega⟩
  refine chk_bad0 h1 h2 ((bad_out hs (by omega) (.inl (by omega))).2 ?_)
  rw [bad_lay hs] at h3
  have h4 : xs.getD 0 0 = 187 := by
    have h5 : xs.getD 0 0 = layF s 187 107 165 0 := by simpa using h3
    rw [h5]; unfold layF; rw [if_pos (by omega)]
  rw [getD_at (by omega), h4]
  decide
theorem out_not_in {xs : List Int} (h : chkE true xs = 0) : chkE false xs = 180 := by
  obtain ⟨h1, h2, h3⟩ := chk_first h
  obtain ⟨s, hs⟩ : ∃ s, xs.length = s + 16 := ⟨xs.length - 16, by omega⟩
  refine chk_bad0 h1 h2 ?_
  have h4 := (bad_out' hs (by omega) (.inl (by omega))).1 h3
  rw [bad_lay hs]
  rw [getD_at (by omega)] at h4
  rw [Option.some.inj h4]
  unfold layF
  rw [if_pos (by omega)]
  decide

/-- What Out answers. -/
def outL (xs : List Int) : List Int := if chkE false xs = 0 then layL (xs.length - 16) 204 90 90 else []
def backL (xs : List Int) : List Int := if chkE true xs = 0 then layL (xs.length - 16) 187 107 165 else []
theorem outL_by (xs : List Int) : By (outL xs) := by
  unfold outL
  split
  · exact layL_by (by omega) (by omega) (by omega)
  · intro x hx; cases hx
theorem backL_by (xs : List Int) : By (backL xs) := by
  unfold backL
  split
  · exact layL_by (by omega) (by omega) (by omega)
  · intro x hx; cases hx

end Go.Proofs.Ytindgcbnpbhciaa
