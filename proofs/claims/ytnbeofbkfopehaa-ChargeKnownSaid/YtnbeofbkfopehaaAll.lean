/-
  Each call of the counters, whatever it answers.
-/
import Derived.Test.YtnbeofbkfopehaaWalkG
import Derived.WalkKit
import Derived.Deep.DeepMust
import Derived.WalkSpells
import Derived.WalkLawsBesides
import Derived.Handy
import Derived.Lib.Hide
import Derived.Deep.QuietTactic
import Derived.BigQuiet
namespace Go.Proofs.Ytnbeofbkfopehaa
open Go.RowKit

def limM (M : Nat → Int) (x n : Int) : Nat → Int := if askF [x] n = 0 then upd M (x - 1).toNat n else M
def upE (U M : Nat → Int) (x n : Int) : Int := if askF [x] n = 0 then (if n ≤ M (x - 1).toNat - U (x - 1).toNat then 0 else 120) else askF [x] n
def upU (U M : Nat → Int) (x n : Int) : Nat → Int := if upE U M x n = 0 then upd U (x - 1).toNat (U (x - 1).toNat + n) else U
def dnE (U : Nat → Int) (x n : Int) : Int := if askF [x] n = 0 then (if n ≤ U (x - 1).toNat then 0 else 2) else askF [x] n
def dnU (U : Nat → Int) (x n : Int) : Nat → Int := if dnE U x n = 0 then upd U (x - 1).toNat (U (x - 1).toNat - n) else U
def tryE (U M : Nat → Int) (xs : List Int) (n : Int) : Int := if askF xs n = 0 then (if fullF U M n xs = 0 then 0 else 120) else askF xs n
def tryA (U M : Nat → Int) (xs : List Int) (n : Int) : Int := if askF xs n = 0 then fullF U M n xs else 0
def tryU (U M : Nat → Int) (xs : List Int) (n : Int) : Nat → Int := if tryE U M xs n = 0 then addP U xs n else U
def backE (U : Nat → Int) (xs : List Int) (n : Int) : Int := if askF xs n = 0 then (if lowB U n xs = true then 0 else 2) else askF xs n
def backU (U : Nat → Int) (xs : List Int) (n : Int) : Nat → Int := if backE U xs n = 0 then addP U xs (-n) else U

theorem one_k {x n : Int} (h : askF [x] n = 0) : (x - 1).toNat < 16 ∧ x - 1 = ((x - 1).toNat : Int) := by
  obtain ⟨h1, h2, -, -⟩ := ask_one h
  omega

/-- What each call leaves of counts and limits is fine. -/
theorem fine_limM {U M : Nat → Int} (h : Fine U M) (x n : Int) : Fine U (limM M x n) := by
  unfold limM
  split
  · rename_i h0
    obtain ⟨-, -, h3, h4⟩ := ask_one h0
    exact h.limit h3 h4
  · exact h
theorem fine_upU {U M : Nat → Int} (h : Fine U M) (x n : Int) : Fine (upU U M x n) M := by
  unfold upU upE
  by_cases h0 : askF [x] n = 0
  · obtain ⟨-, -, h3, h4⟩ := ask_one h0
    rw [if_pos h0]
    by_cases hq : n ≤ M (x - 1).toNat - U (x - 1).toNat
    · rw [if_pos hq, if_pos rfl]
      exact h.up h3 hq
    · rw [if_neg hq, if_neg (by decide)]
      exact h
  · rw [if_neg h0, if_neg h0]
    exact h
theorem fine_dnU {U M : Nat → Int} (h : Fine U M) (x n : Int) : Fine (dnU U x n) M := by
  unfold dnU dnE
  by_cases h0 : askF [x] n = 0
  · obtain ⟨-, -, h3, h4⟩ := ask_one h0
    rw [if_pos h0]
    by_cases hq : n ≤ U (x - 1).toNat
    · rw [if_pos hq, if_pos rfl]
      exact h.down h3 hq
    · rw [if_neg hq, if_neg (by decide)]
      exact h
  · rw [if_neg h0, if_neg h0]
    exact h
theorem fine_tryU {U M : Nat → Int} (h : Fine U M) (xs : List Int) (n : Int) : Fine (tryU U M xs n) M := by
  unfold tryU tryE
  by_cases h0 : askF xs n = 0
  · rw [if_pos h0]
    by_cases hq : fullF U M n xs = 0
    · rw [if_pos hq, if_pos rfl]
      exact h.try h0 hq
    · rw [if_neg hq, if_neg (by decide)]
      exact h
  · rw [if_neg h0, if_neg h0]
    exact h
theorem fine_backU {U M : Nat → Int} (h : Fine U M) (xs : List Int) (n : Int) : Fine (backU U xs n) M := by
  unfold backU backE
  by_cases h0 : askF xs n = 0
  · obtain ⟨-, -, h3, -⟩ := ask_len h0
    rw [if_pos h0]
    by_cases hq : lowB U n xs = true
    · rw [if_pos hq, if_pos rfl]
      exact h.back h3 hq
    · rw [if_neg hq, if_neg (by decide)]
      exact h
  · rw [if_neg h0, if_neg h0]
    exact h

theorem limit_all (w : World) (b : Nat) (U M : Nat → Int) (hC : ChAt w b U M) (x n e : Int) (he : Hid (askF [x] n = e)) (M' : Nat → Int) (hM : Hid (limM M x n = M')) :
    Calls Try.prog 10 #[.pointer (some ⟨b, 0, none⟩), .int .i64 x, .int .i64 n] w fun r w' => r = .returned (.int .i64 e) ∧ ChAt w' b U M' ∧ One b w w' := by
  by_cases h0 : e = 0
  · subst h0
    obtain ⟨hk, hx⟩ := one_k he.out
    refine (limit_ok w b U M hC x n _ hk hx he).mono ?_
    rintro r w' ⟨h1, h2, h3⟩
    refine ⟨h1, ?_, h3⟩
    rw [← hM.out]
    unfold limM
    rw [if_pos he.out]
    exact h2
  · refine (limit_err w b U M hC x n e he h0).mono ?_
    rintro r w' ⟨h1, h2⟩
    refine ⟨h1, ?_, One.of_below b h2⟩
    rw [← hM.out]
    unfold limM
    rw [if_neg (by rw [he.out]; exact h0)]
    exact hC.below h2

theorem up_all (w : World) (b : Nat) (U M : Nat → Int) (hC : ChAt w b U M) (hF : Fine U M) (x n e : Int) (he : Hid (upE U M x n = e)) (U' : Nat → Int) (hU : Hid (upU U M x n = U')) :
    Calls Try.prog 21 #[.pointer (some ⟨b, 0, none⟩), .int .i64 x, .int .i64 n] w fun r w' => r = .returned (.int .i64 e) ∧ ChAt w' b U' M ∧ One b w w' := by
  have h1 := he.out
  have h2 := hU.out
  unfold upU at h2
  rw [h1] at h2
  unfold upE at h1
  by_cases h0 : askF [x] n = 0
  · obtain ⟨hk, hx⟩ := one_k h0
    rw [if_pos h0] at h1
    by_cases hq : n ≤ M (x - 1).toNat - U (x - 1).toNat
    · rw [if_pos hq] at h1
      rw [← h1, if_pos rfl] at h2
      subst h1 h2
      exact up_ok w b U M hC hF x n _ hk hx (Lib.hid h0) hq
    · rw [if_neg hq] at h1
      rw [← h1, if_neg (by decide)] at h2
      subst h1 h2
      exact (up_full w b U M hC hF x n _ hk hx (Lib.hid h0) (by omega)).mono fun r w' h => ⟨h.1, hC.below h.2, One.of_below b h.2⟩
  · rw [if_neg h0] at h1
    rw [if_neg (by rw [← h1]; exact h0)] at h2
    subst h2
    exact (up_err w b U M hC x n e (Lib.hid h1) (by rw [← h1]; exact h0)).mono fun r w' h => ⟨h.1, hC.below h.2, One.of_below b h.2⟩

theorem down_all (w : World) (b : Nat) (U M : Nat → Int) (hC : ChAt w b U M) (hF : Fine U M) (x n e : Int) (he : Hid (dnE U x n = e)) (U' : Nat → Int) (hU : Hid (dnU U x n = U')) :
    Calls Try.prog 22 #[.pointer (some ⟨b, 0, none⟩), .int .i64 x, .int .i64 n] w fun r w' => r = .returned (.int .i64 e) ∧ ChAt w' b U' M ∧ One b w w' := by
  have h1 := he.out
  have h2 := hU.out
  unfold dnU at h2
  rw [h1] at h2
  unfold dnE at h1
  by_cases h0 : askF [x] n = 0
  · obtain ⟨hk, hx⟩ := one_k h0
    rw [if_pos h0] at h1
    by_cases hq : n ≤ U (x - 1).toNat
    · rw [if_pos hq] at h1
      rw [← h1, if_pos rfl] at h2
      subst h1 h2
      exact down_ok w b U M hC hF x n _ hk hx (Lib.hid h0) hq
    · rw [if_neg hq] at h1
      rw [← h1, if_neg (by decide)] at h2
      subst h1 h2
      exact (down_no w b U M hC hF x n _ hk hx (Lib.hid h0) (by omega)).mono fun r w' h => ⟨h.1, hC.below h.2, One.of_below b h.2⟩
  · rw [if_neg h0] at h1
    rw [if_neg (by rw [← h1]; exact h0)] at h2
    subst h2
    exact (down_err w b U M hC x n e (Lib.hid h1) (by rw [← h1]; exact h0)).mono fun r w' h => ⟨h.1, hC.below h.2, One.of_below b h.2⟩

theorem try_all (w : World) (b : Nat) (U M : Nat → Int) (hC : ChAt w b U M) (hF : Fine U M) (xs : List Int) (m : Nat) (hm : Hid (xs.length = m)) (hmx : m ≤ 9223372036854775807) (n : Int) (A : Option Addr) (c : Nat) (hR : Row w A (intsV xs)) (hAb : 0 < m → ∀ g off, A = some ⟨g, off, none⟩ → g ≠ b) (a e : Int) (ha : Hid (tryA U M xs n = a)) (he : Hid (tryE U M xs n = e)) (U' : Nat → Int) (hU : Hid (tryU U M xs n = U')) :
    Calls Try.prog 11 #[.pointer (some ⟨b, 0, none⟩), .slice A m c, .int .i64 n] w fun r w' => r = .returned (.tuple #[.int .i64 a, .int .i64 e]) ∧ ChAt w' b U' M ∧ One b w w' := by
  have h1 := he.out
  have h2 := hU.out
  have h3 := ha.out
  unfold tryU at h2
  rw [h1] at h2
  unfold tryE at h1
  unfold tryA at h3
  by_cases h0 : askF xs n = 0
  · rw [if_pos h0] at h1 h3
    by_cases hq : fullF U M n xs = 0
    · rw [if_pos hq] at h1
      rw [hq] at h3
      rw [← h1, if_pos rfl] at h2
      subst h1 h2 h3
      exact try_y w b U M hC hF xs m hm n A c hR (hAb (by have := ask_len h0; have := hm.out; omega)) (Lib.hid h0) (Lib.hid hq)
    · rw [if_neg hq] at h1
      rw [← h1, if_neg (by decide)] at h2
      subst h1 h2
      exact try_n w b U M hC hF xs m hm n A c hR (hAb (by have := ask_len h0; have := hm.out; omega)) (Lib.hid h0) a (Lib.hid h3) (by rw [← h3]; exact hq)
  · rw [if_neg h0] at h1 h3
    rw [if_neg (by rw [← h1]; exact h0)] at h2
    subst h2 h3
    exact (try_err w b U M hC xs m hm hmx n A c hR e (Lib.hid h1) (by rw [← h1]; exact h0)).mono fun r w' h => ⟨h.1, hC.below h.2, One.of_below b h.2⟩

theorem back_all (w : World) (b : Nat) (U M : Nat → Int) (hC : ChAt w b U M) (hF : Fine U M) (xs : List Int) (m : Nat) (hm : Hid (xs.length = m)) (hmx : m ≤ 9223372036854775807) (n : Int) (A : Option Addr) (c : Nat) (hR : Row w A (intsV xs)) (hAb : 0 < m → ∀ g off, A = some ⟨g, off, none⟩ → g ≠ b) (e : Int) (he : Hid (backE U xs n = e)) (U' : Nat → Int) (hU : Hid (backU U xs n = U')) :
    Calls Try.prog 13 #[.pointer (some ⟨b, 0, none⟩), .slice A m c, .int .i64 n] w fun r w' => r = .returned (.int .i64 e) ∧ ChAt w' b U' M ∧ One b w w' := by
  have h1 := he.out
  have h2 := hU.out
  unfold backU at h2
  rw [h1] at h2
  unfold backE at h1
  by_cases h0 : askF xs n = 0
  · rw [if_pos h0] at h1
    by_cases hq : lowB U n xs = true
    · rw [if_pos hq] at h1
      rw [← h1, if_pos rfl] at h2
      subst h1 h2
      exact back_y w b U M hC hF xs m hm n A c hR (hAb (by have := ask_len h0; have := hm.out; omega)) (Lib.hid h0) (Lib.hid hq)
    · rw [if_neg hq] at h1
      rw [← h1, if_neg (by decide)] at h2
      subst h1 h2
      exact (back_n w b U M hC hF xs m hm n A c hR (hAb (by have := ask_len h0; have := hm.out; omega)) (Lib.hid h0) (Lib.hid (by simpa using hq))).mono fun r w' h => ⟨h.1, hC.below h.2, One.of_below b h.2⟩
  · rw [if_neg h0] at h1
    rw [if_neg (by rw [← h1]; exact h0)] at h2
    subst h2
    exact (back_err w b U M hC xs m hm hmx n A c hR e h1 (by rw [← h1]; exact h0)).mono fun r w' h => ⟨h.1, hC.below h.2, One.of_below b h.2⟩

end Go.Proofs.Ytnbeofbkfopehaa
