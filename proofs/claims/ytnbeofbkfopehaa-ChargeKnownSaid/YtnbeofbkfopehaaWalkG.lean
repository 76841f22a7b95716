/-
  Try and Back of any path that may be; what stays so of counts and limits.
-/
import Derived.Test.YtnbeofbkfopehaaWalkF
import Derived.WalkKit
import Derived.Deep.DeepMust
import Derived.WalkSpells
import Derived.WalkLawsBesides
import Derived.Handy
import Derived.Lib.Hide
import Derived.Deep.QuietTactic
import Derived.BigQuiet
namespace Go.Proofs.Ytnbeofbkfopehaa
open Go.RowKit

theorem Fine.limit {U M : Nat → Int} (h : Fine U M) {k : Nat} {n : Int} (h0 : 0 ≤ n) (h1 : n ≤ 9007199254740991) : Fine U (upd M k n) := by
  intro i hi
  obtain ⟨a, b, c, d⟩ := h i hi
  unfold upd
  by_cases hik : i = k
  · rw [if_pos hik]; exact ⟨a, b, h0, h1⟩
  · rw [if_neg hik]; exact ⟨a, b, c, d⟩
theorem Fine.down {U M : Nat → Int} (h : Fine U M) {k : Nat} {n : Int} (h0 : 0 ≤ n) (hq : n ≤ U k) : Fine (upd U k (U k - n)) M := by
  intro i hi
  obtain ⟨a, b, c, d⟩ := h i hi
  unfold upd
  by_cases hik : i = k
  · subst hik; rw [if_pos rfl]; omega
  · rw [if_neg hik]; exact ⟨a, b, c, d⟩
theorem full_room {U M : Nat → Int} {n : Int} : ∀ {xs : List Int}, allG xs = true → fullF U M n xs = 0 → ∀ k : Nat, ((k : Int) + 1) ∈ xs → n ≤ M k - U k
  | [], _, _, k, hk => by cases hk
  | x :: r, hg, hf, k, hk => by
    have hx := allG_at hg (k := 0) (by simp)
    simp only [List.getElem_cons_zero] at hx
    have hgr : allG r = true := by
      unfold allG at hg ⊢
      rw [List.all_cons, Bool.and_eq_true] at hg
      exact hg.2
    by_cases hq : n ≤ M (x - 1).toNat - U (x - 1).toNat
    · have hf' : fullF U M n r = 0 := by
        have : fullF U M n (x :: r) = fullF U M n r := by
          show (bif decide _ then _ else _) = _
          rw [decide_eq_true hq]; rfl
        rw [← this]; exact hf
      rcases List.mem_cons.1 hk with h | h
      · rw [← h, show ((k : Int) + 1 - 1).toNat = k by omega] at hq
        exact hq
      · exact full_room hgr hf' k h
    · have : fullF U M n (x :: r) = x := by
        show (bif decide _ then _ else _) = _
        rw [decide_eq_false hq]; rfl
      rw [this] at hf
      omega
theorem low_room {U : Nat → Int} {n : Int} {xs : List Int} (h : lowB U n xs = true) (k : Nat) (hk : ((k : Int) + 1) ∈ xs) : n ≤ U k := by
  unfold lowB at h
  have := List.all_eq_true.1 h _ hk
  rw [show ((k : Int) + 1 - 1).toNat = k by omega] at this
  simpa using this
theorem Fine.try {U M : Nat → Int} (h : Fine U M) {xs : List Int} {n : Int} (he : askF xs n = 0) (hf : fullF U M n xs = 0) : Fine (addP U xs n) M := by
  obtain ⟨hg, hfit⟩ := askF_zero.1 he
  obtain ⟨-, -, -, h0, h1⟩ := fitB_iff.1 hfit
  intro k hk
  obtain ⟨a, b, c, d⟩ := h k hk
  unfold addP
  by_cases hm : ((k : Int) + 1) ∈ xs
  · rw [if_pos hm]
    have := full_room hg hf k hm
    omega
  · rw [if_neg hm]; exact ⟨a, b, c, d⟩
theorem Fine.back {U M : Nat → Int} (h : Fine U M) {xs : List Int} {n : Int} (h0 : 0 ≤ n) (hl : lowB U n xs = true) : Fine (addP U xs (-n)) M := by
  intro k hk
  obtain ⟨a, b, c, d⟩ := h k hk
  unfold addP
  by_cases hm : ((k : Int) + 1) ∈ xs
  · rw [if_pos hm]
    have := low_room hl k hm
    omega
  · rw [if_neg hm]; exact ⟨a, b, c, d⟩

theorem ask_len {xs : List Int} {n : Int} (h : askF xs n = 0) : 1 ≤ xs.length ∧ xs.length ≤ 8 ∧ 0 ≤ n ∧ n ≤ 9007199254740991 := by
  obtain ⟨-, h2⟩ := askF_zero.1 h
  obtain ⟨-, h3, h4, h5, h6⟩ := fitB_iff.1 h2
  exact ⟨h3, h4, h5, h6⟩

/-- Try of a path that may be; A: where it lies: not in the counters' block. -/
theorem try_any (w : World) (b : Nat) (U M : Nat → Int) (hC : ChAt w b U M) (hF : Fine U M) (xs : List Int) (m : Nat) (hm : Hid (xs.length = m)) (n : Int) (A : Option Addr) (c : Nat) (hR : Row w A (intsV xs)) (hAb : ∀ g off, A = some ⟨g, off, none⟩ → g ≠ b) (he : Hid (askF xs n = 0)) :
    Calls Try.prog 11 #[.pointer (some ⟨b, 0, none⟩), .slice A m c, .int .i64 n] w (TryPost w b U M xs n) := by
  obtain ⟨h1, h8, -, -⟩ := ask_len he.out
  rw [hm.out] at h1 h8
  obtain ⟨g, off, rfl, hg, hc⟩ := hR (by rw [intsV_len, hm.out]; exact h1)
  exact try_ok w b U M hC hF xs m hm h8 n g off c (hAb g off rfl) hg hc hR he
theorem back_any (w : World) (b : Nat) (U M : Nat → Int) (hC : ChAt w b U M) (hF : Fine U M) (xs : List Int) (m : Nat) (hm : Hid (xs.length = m)) (n : Int) (A : Option Addr) (c : Nat) (hR : Row w A (intsV xs)) (hAb : ∀ g off, A = some ⟨g, off, none⟩ → g ≠ b) (he : Hid (askF xs n = 0)) :
    Calls Try.prog 13 #[.pointer (some ⟨b, 0, none⟩), .slice A m c, .int .i64 n] w (BackPost w b U M xs n) := by
  obtain ⟨h1, h8, -, -⟩ := ask_len he.out
  rw [hm.out] at h1 h8
  obtain ⟨g, off, rfl, hg, hc⟩ := hR (by rw [intsV_len, hm.out]; exact h1)
  exact back_ok w b U M hC hF xs m hm h8 n g off c (hAb g off rfl) hg hc hR he

/-- With the outcome known. -/
theorem try_y (w : World) (b : Nat) (U M : Nat → Int) (hC : ChAt w b U M) (hF : Fine U M) (xs : List Int) (m : Nat) (hm : Hid (xs.length = m)) (n : Int) (A : Option Addr) (c : Nat) (hR : Row w A (intsV xs)) (hAb : ∀ g off, A = some ⟨g, off, none⟩ → g ≠ b) (he : Hid (askF xs n = 0)) (hf : Hid (fullF U M n xs = 0)) :
    Calls Try.prog 11 #[.pointer (some ⟨b, 0, none⟩), .slice A m c, .int .i64 n] w fun r w' => r = .returned (.tuple #[.int .i64 0, .int .i64 0]) ∧ ChAt w' b (addP U xs n) M ∧ One b w w' :=
  (try_any w b U M hC hF xs m hm n A c hR hAb he).mono fun _ _ h => by
    rcases h with ⟨-, h1, h2, h3⟩ | ⟨h0, -⟩
    · exact ⟨h1, h2, h3⟩
    · exact absurd hf.out h0
theorem try_n (w : World) (b : Nat) (U M : Nat → Int) (hC : ChAt w b U M) (hF : Fine U M) (xs : List Int) (m : Nat) (hm : Hid (xs.length = m)) (n : Int) (A : Option Addr) (c : Nat) (hR : Row w A (intsV xs)) (hAb : ∀ g off, A = some ⟨g, off, none⟩ → g ≠ b) (he : Hid (askF xs n = 0)) (x : Int) (hf : Hid (fullF U M n xs = x)) (hx : x ≠ 0) :
    Calls Try.prog 11 #[.pointer (some ⟨b, 0, none⟩), .slice A m c, .int .i64 n] w fun r w' => r = .returned (.tuple #[.int .i64 x, .int .i64 120]) ∧ ChAt w' b U M ∧ One b w w' :=
  (try_any w b U M hC hF xs m hm n A c hR hAb he).mono fun _ _ h => by
    rcases h with ⟨h0, -⟩ | ⟨-, h1, h2, h3⟩
    · exact absurd (hf.out.symm.trans h0) hx
    · exact ⟨by rw [h1, hf.out], h2, h3⟩
theorem back_y (w : World) (b : Nat) (U M : Nat → Int) (hC : ChAt w b U M) (hF : Fine U M) (xs : List Int) (m : Nat) (hm : Hid (xs.length = m)) (n : Int) (A : Option Addr) (c : Nat) (hR : Row w A (intsV xs)) (hAb : ∀ g off, A = some ⟨g, off, none⟩ → g ≠ b) (he : Hid (askF xs n = 0)) (hl : Hid (lowB U n xs = true)) :
    Calls Try.prog 13 #[.pointer (some ⟨b, 0, none⟩), .slice A m c, .int .i64 n] w fun r w' => r = .returned (.int .i64 0) ∧ ChAt w' b (addP U xs (-n)) M ∧ One b w w' :=
  (back_any w b U M hC hF xs m hm n A c hR hAb he).mono fun _ _ h => by
    rcases h with ⟨-, h1, h2, h3⟩ | ⟨h0, -⟩
    · exact ⟨h1, h2, h3⟩
    · rw [hl.out] at h0; cases h0
theorem back_n (w : World) (b : Nat) (U M : Nat → Int) (hC : ChAt w b U M) (hF : Fine U M) (xs : List Int) (m : Nat) (hm : Hid (xs.length = m)) (n : Int) (A : Option Addr) (c : Nat) (hR : Row w A (intsV xs)) (hAb : ∀ g off, A = some ⟨g, off, none⟩ → g ≠ b) (he : Hid (askF xs n = 0)) (hl : Hid (lowB U n xs = false)) :
    Calls Try.prog 13 #[.pointer (some ⟨b, 0, none⟩), .slice A m c, .int .i64 n] w fun r w' => r = .returned (.int .i64 2) ∧ Below w.heap.size w w' :=
  (back_any w b U M hC hF xs m hm n A c hR hAb he).mono fun _ _ h => by
    rcases h with ⟨h0, -⟩ | ⟨-, h1, h2⟩
    · rw [hl.out] at h0; cases h0
    · exact ⟨h1, h2⟩

end Go.Proofs.Ytnbeofbkfopehaa
