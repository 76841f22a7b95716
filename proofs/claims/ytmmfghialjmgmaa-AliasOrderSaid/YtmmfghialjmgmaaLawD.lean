/-
  The walk of AliasFinds.
-/
import Derived.Test.YtmmfghialjmgmaaLawC
import Derived.Test.YtmmfghialjmgmaaReads
namespace Go.Proofs.Ytmmfghialjmgmaa
open Go.RowKit

def flat : List Sp → List Value
  | [] => []
  | x :: r => .int .i64 x.s :: .int .i64 x.a :: .int .i64 x.f :: flat r
theorem flat_length : ∀ l : List Sp, (flat l).length = l.length * 3
  | [] => rfl
  | x :: r => by simp only [flat, List.length_cons, flat_length r]; omega
theorem flat_at : ∀ (l : List Sp) (i : Nat) (h : i < l.length), (flat l)[i * 3]? = some (.int .i64 l[i].s) ∧ (flat l)[i * 3 + 1]? = some (.int .i64 l[i].a) ∧ (flat l)[i * 3 + 2]? = some (.int .i64 l[i].f)
  | x :: r, 0, _ => ⟨rfl, rfl, rfl⟩
  | x :: r, i + 1, h => by
    have := flat_at r i (by simpa using h)
    simp only [flat, show (i + 1) * 3 = i * 3 + 1 + 1 + 1 by omega, List.getElem?_cons_succ, List.getElem_cons_succ]
    exact this
theorem flat_one : ∀ (l : List Sp), ∀ u ∈ flat l, u.oneCell' = true
  | [], u, h => by simp [flat] at h
  | x :: r, u, h => by
    simp only [flat, List.mem_cons] at h
    rcases h with rfl | rfl | rfl | h
    · rfl
    · rfl
    · rfl
    · exact flat_one r u h

theorem reads_of_sp {w : World} {b off : Nat} {l : List Sp} (hb : b < w.heap.size) (h : SpAt w b off l) : Reads w w.heap.size 3 (some ⟨b, off, none⟩) l.length (flat l) :=
  ⟨flat_length l, fun _ => ⟨_, rfl, hb, fun j u hu => by
    have hj : j < l.length * 3 := by rw [← flat_length]; exact (List.getElem?_eq_some_iff.1 hu).1
    have h1 := flat_at l (j / 3) (by omega)
    have h2 := h (j / 3) (by omega)
    have hadd : (⟨b, off, none⟩ : Addr).add j = ⟨b, off + j, none⟩ := by
      unfold Addr.add
      by_cases h0 : j = 0
      · subst h0; rfl
      · rw [if_neg h0]
    rw [hadd]
    have hc : j = j / 3 * 3 ∨ j = j / 3 * 3 + 1 ∨ j = j / 3 * 3 + 2 := by omega
    rcases hc with hc | hc | hc
    · rw [hc] at hu ⊢; rw [h1.1] at hu; rw [h2.1]; exact hu
    · rw [hc] at hu ⊢; rw [h1.2.1] at hu; rw [← Nat.add_assoc, h2.2.1]; exact hu
    · rw [hc] at hu ⊢; rw [h1.2.2] at hu; rw [← Nat.add_assoc, h2.2.2]; exact hu⟩⟩

theorem own_sp {w : World} {base : Nat} {v : Value} {n : Nat} {l : List Sp} (hn : l.length = n) (h : w.ownsRow base 23 3 v n (flat l)) :
    ∃ A c, v = .slice A n c ∧ (0 < n → ∃ b off, A = some ⟨b, off, none⟩ ∧ base ≤ b ∧ b < w.heap.size ∧ SpAt w b off l) := by
  subst hn
  rcases h.2 with ⟨hv, h0⟩ | ⟨g, cap, cur, hv, hg, hh, _⟩
  · exact ⟨none, 0, by rw [hv, h0], fun hp => by omega⟩
  · refine ⟨_, cap, hv, fun hp => ⟨g, 0, rfl, hg, ?_, fun i hi => ?_⟩⟩
    · exact (h.lt g (by rw [hv]; rfl)).2
    · subst hv
      have h1 := flat_at l i hi
      have c0 := h.cellAt (i * 3) (by omega)
      have c1 := h.cellAt (i * 3 + 1) (by omega)
      have c2 := h.cellAt (i * 3 + 2) (by omega)
      simp only [Nat.zero_add]
      exact ⟨c0.trans h1.1, c1.trans h1.2.1, c2.trans h1.2.2⟩

end Go.Proofs.Ytmmfghialjmgmaa
