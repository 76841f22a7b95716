/-
  Bits of small numbers: rounding up by a mask, and the flags of two specs together.
-/
import Derived.Laws.BitsLemmas
import Derived.WalkKit
import Derived.Test.YtmmfghialjmgmaaPlain
namespace Go.Proofs.Ytmmfghialjmgmaa

theorem andNot8 : ∀ x : Fin 1088, bits .andNot .i64 (x.val : Int) 7 = (x.val : Int) / 8 * 8 := by decide +kernel
theorem andNot16 : ∀ x : Fin 1088, bits .andNot .i64 (x.val : Int) 15 = (x.val : Int) / 16 * 16 := by decide +kernel
theorem andNot32 : ∀ x : Fin 1088, bits .andNot .i64 (x.val : Int) 31 = (x.val : Int) / 32 * 32 := by decide +kernel
theorem andNot64 : ∀ x : Fin 1088, bits .andNot .i64 (x.val : Int) 63 = (x.val : Int) / 64 * 64 := by decide +kernel
theorem orNe8 : ∀ x y : Fin 8, (bits .or .i64 (x.val : Int) (y.val : Int) != 0) = !((x.val : Int) == 0 && (y.val : Int) == 0) := by decide +kernel

theorem stepBits {s a f : Int} (h : okB s a f = true) : bits .andNot .i64 (s + a - 1) (a - 1) = (s + a - 1) / a * a := by
  rw [okB_iff] at h
  obtain ⟨ha, h1, h2, _⟩ := h
  obtain ⟨n, hn⟩ := Int.eq_ofNat_of_zero_le (show 0 ≤ s + a - 1 by omega)
  rw [hn]
  have hlt : n < 1088 := by omega
  rcases ha with rfl | rfl | rfl | rfl
  · exact andNot8 ⟨n, hlt⟩
  · exact andNot16 ⟨n, hlt⟩
  · exact andNot32 ⟨n, hlt⟩
  · exact andNot64 ⟨n, hlt⟩

theorem orNe {f g : Int} (hf : 0 ≤ f) (hf' : f ≤ 7) (hg : 0 ≤ g) (hg' : g ≤ 7) : (bits .or .i64 f g != 0) = !(f == 0 && g == 0) := by
  obtain ⟨n, rfl⟩ := Int.eq_ofNat_of_zero_le hf
  obtain ⟨m, rfl⟩ := Int.eq_ofNat_of_zero_le hg
  exact orNe8 ⟨n, by omega⟩ ⟨m, by omega⟩

end Go.Proofs.Ytmmfghialjmgmaa
