/-
  Counts, heads and parts, and their words: plain numbers.
-/
namespace Go.Proofs.Ytmljiklddjladaa

def mayC (i o : Int) (f l : Bool) : Bool := (l && (decide (1 ≤ o) && (decide (o ≤ 16) && (decide (0 ≤ i) && decide (i ≤ o))))) || (decide (i = 0) && (decide (o = 0) && (!f && !l)))
def packW (i o : Int) (f l : Bool) : Int := i + 256 * o + (if f = true then 65536 else 0) + (if l = true then 131072 else 0)
def packF (i o : Int) (f l : Bool) : Int × Int := if mayC i o f l = true then (packW i o f l, 0) else (0, 2)

theorem mayC_iff (i o : Int) (f l : Bool) : mayC i o f l = true ↔ (l = true ∧ 1 ≤ o ∧ o ≤ 16 ∧ 0 ≤ i ∧ i ≤ o) ∨ (i = 0 ∧ o = 0 ∧ f = false ∧ l = false) := by
  unfold mayC
  cases f <;> cases l <;> simp
theorem mayC_bd {i o : Int} {f l : Bool} (h : mayC i o f l = true) : 0 ≤ i ∧ i ≤ o ∧ 0 ≤ o ∧ o ≤ 16 := by
  rcases (mayC_iff i o f l).1 h with h | h <;> omega
theorem packW_bd {i o : Int} {f l : Bool} (h : mayC i o f l = true) : 0 ≤ packW i o f l ∧ packW i o f l < 262144 := by
  have := mayC_bd h
  unfold packW
  cases f <;> cases l <;> simp <;> omega

structure Cnt where
  i : Int
  o : Int
  f : Bool
  l : Bool
  deriving DecidableEq

def cnt0 : Cnt := ⟨0, 0, false, false⟩
def fI (w : Int) : Int := w % 256
def fO (w : Int) : Int := w / 256 % 256
def fF (w : Int) : Bool := decide (w / 65536 % 2 = 1)
def fL (w : Int) : Bool := decide (w / 131072 % 2 = 1)
def cntF (w : Int) : Cnt × Bool := if w < 262144 ∧ mayC (fI w) (fO w) (fF w) (fL w) = true then (⟨fI w, fO w, fF w, fL w⟩, true) else (cnt0, false)

theorem packW_of (w : Int) : packW (fI w) (fO w) (fF w) (fL w) = w % 262144 := by
  unfold packW fI fO fF fL
  by_cases h1 : w / 65536 % 2 = 1 <;> by_cases h2 : w / 131072 % 2 = 1 <;> simp [h1, h2] <;> omega
theorem back_of {i o : Int} {f l : Bool} (h : mayC i o f l = true) : fI (packW i o f l) = i ∧ fO (packW i o f l) = o ∧ fF (packW i o f l) = f ∧ fL (packW i o f l) = l := by
  have hb := mayC_bd h
  unfold packW fI fO fF fL
  cases f <;> cases l <;> simp <;> omega
/-- The second text asks of a word whether it is just the one that is written. -/
theorem cnt_two {w : Int} (h0 : 0 ≤ w) : (packF (fI w) (fO w) (fF w) (fL w)).2 = 0 ∧ (packF (fI w) (fO w) (fF w) (fL w)).1 = w ↔ w < 262144 ∧ mayC (fI w) (fO w) (fF w) (fL w) = true := by
  unfold packF
  cases hm : mayC (fI w) (fO w) (fF w) (fL w)
  · simp
  · simp only [if_true, packW_of]
    constructor
    · rintro ⟨-, h⟩
      exact ⟨by omega, trivial⟩
    · rintro ⟨h, -⟩
      exact ⟨trivial, by omega⟩
theorem cnt_pack {i o : Int} {f l : Bool} (h : mayC i o f l = true) : cntF (packW i o f l) = (⟨i, o, f, l⟩, true) := by
  obtain ⟨h1, h2, h3, h4⟩ := back_of h
  unfold cntF
  rw [h1, h2, h3, h4, if_pos ⟨(packW_bd h).2, h⟩]

def headOk (s i : Int) : Bool := decide (s = -1 ∧ i = -1) || decide (0 ≤ s ∧ s < 32 ∧ -1 ≤ i ∧ i < 16)
def headF (s i : Int) : Int × Int := if headOk s i = true then ((s + 1) * 64 + (i + 1), 0) else (0, 2)
def partOk (s n : Int) : Bool := decide (s = -1 ∧ n = 0) || decide (0 ≤ s ∧ s < 32 ∧ 1 ≤ n ∧ n ≤ 63)
def partF (s n : Int) : Int × Int := if partOk s n = true then (n * 64 + (s + 1), 0) else (0, 2)
theorem headOk_iff (s i : Int) : headOk s i = true ↔ (s = -1 ∧ i = -1) ∨ (0 ≤ s ∧ s < 32 ∧ -1 ≤ i ∧ i < 16) := by simp [headOk]
theorem partOk_iff (s n : Int) : partOk s n = true ↔ (s = -1 ∧ n = 0) ∨ (0 ≤ s ∧ s < 32 ∧ 1 ≤ n ∧ n ≤ 63) := by simp [partOk]

def headOfF (w : Int) : Int × Int × Bool := if w < 4096 ∧ headOk (w / 64 - 1) (w % 64 - 1) = true then (w / 64 - 1, w % 64 - 1, true) else (-1, -1, false)
def partOfF (w : Int) : Int × Int × Bool := if w < 4096 ∧ partOk (w % 64 - 1) (w / 64) = true then (w % 64 - 1, w / 64, true) else (-1, 0, false)

theorem head_back {s i : Int} (h : headOk s i = true) : headOfF ((s + 1) * 64 + (i + 1)) = (s, i, true) := by
  have h' := (headOk_iff s i).1 h
  unfold headOfF
  rw [show ((s + 1) * 64 + (i + 1)) / 64 - 1 = s by omega, show ((s + 1) * 64 + (i + 1)) % 64 - 1 = i by omega, if_pos ⟨by omega, h⟩]
theorem part_back {s n : Int} (h : partOk s n = true) : partOfF (n * 64 + (s + 1)) = (s, n, true) := by
  have h' := (partOk_iff s n).1 h
  unfold partOfF
  rw [show (n * 64 + (s + 1)) / 64 = n by omega, show (n * 64 + (s + 1)) % 64 - 1 = s by omega, if_pos ⟨by omega, h⟩]
theorem headOf_yes {w s i : Int} (h : headOfF w = (s, i, true)) : headF s i = (w, 0) := by
  unfold headOfF at h
  split at h
  · rename_i hw
    simp only [Prod.mk.injEq, and_true] at h
    obtain ⟨rfl, rfl⟩ := h
    unfold headF
    rw [if_pos hw.2]
    exact Prod.ext (by show (w / 64 - 1 + 1) * 64 + (w % 64 - 1 + 1) = w; omega) rfl
  · simp at h
theorem partOf_yes {w s n : Int} (h : partOfF w = (s, n, true)) : partF s n = (w, 0) := by
  unfold partOfF at h
  split at h
  · rename_i hw
    simp only [Prod.mk.injEq, and_true] at h
    obtain ⟨rfl, rfl⟩ := h
    unfold partF
    rw [if_pos hw.2]
    exact Prod.ext (by show w / 64 * 64 + (w % 64 - 1 + 1) = w; omega) rfl
  · simp at h
theorem headOf_hit {w s i : Int} (h : headF s i = (w, 0)) : headOfF w = (s, i, true) := by
  unfold headF at h
  split at h
  · rename_i hk
    simp only [Prod.mk.injEq, and_true] at h
    subst h
    exact head_back hk
  · simp at h
/-- No pair has the word: none is told. -/
theorem headOf_none {w : Int} (h : ∀ s i : Int, -1 ≤ s → s < 32 → -1 ≤ i → i < 16 → ¬ headF s i = (w, 0)) : headOfF w = (-1, -1, false) := by
  unfold headOfF
  rw [if_neg]
  rintro ⟨h1, h2⟩
  have h3 := (headOk_iff _ _).1 h2
  refine h _ _ ?_ ?_ ?_ ?_ (headOf_yes (w := w) (s := w / 64 - 1) (i := w % 64 - 1) (by unfold headOfF; rw [if_pos ⟨h1, h2⟩])) <;> omega
/-- The second text's way. -/
theorem partOf_two {w : Int} (h0 : 0 < w) : partOfF w = if (partF (w % 64 - 1) (w / 64 % 64)).2 = 0 ∧ (partF (w % 64 - 1) (w / 64 % 64)).1 = w then (w % 64 - 1, w / 64 % 64, true) else (-1, 0, false) := by
  unfold partOfF partF
  by_cases hw : w < 4096
  · have e : w / 64 % 64 = w / 64 := by omega
    rw [e]
    cases hp : partOk (w % 64 - 1) (w / 64)
    · simp
    · simp only [if_true, hw, true_and, and_self]
      rw [if_pos (by omega)]
  · rw [if_neg (fun h => hw h.1), if_neg]
    cases hp : partOk (w % 64 - 1) (w / 64 % 64)
    · simp
    · simp only [if_true, true_and]
      omega

end Go.Proofs.Ytmljiklddjladaa
