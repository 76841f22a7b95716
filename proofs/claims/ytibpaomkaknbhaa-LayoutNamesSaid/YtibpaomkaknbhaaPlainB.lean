/-
  What a layout that Of gives is: plain numbers.
-/
import Derived.Test.YtibpaomkaknbhaaPlain
namespace Go.Proofs.Ytibpaomkaknbhaa

theorem upb {n m : Int} (hm : 1 ≤ m) : n ≤ upI n m ∧ upI n m ≤ n + m - 1 ∧ upI n m % m = 0 := by
  unfold upI
  have h1 := Int.mul_ediv_add_emod (n + m - 1) m
  have h2 := Int.emod_nonneg (n + m - 1) (show m ≠ 0 by omega)
  have h3 := Int.emod_lt_of_pos (n + m - 1) (show 0 < m by omega)
  rw [Int.mul_comm] at h1
  exact ⟨by omega, by omega, Int.mul_emod_left _ _⟩

/-- x is the layout l at an order at which it has an object. -/
def Good (l x : Lay) : Prop := ∃ k, k < 4 ∧ x = slabF l k ∧ (slabF l k).obj ≠ 0

theorem scan_good_all (l : Lay) : ∀ (n o : Nat) (first : Option Lay), o + n = 4 → (∀ x, first = some x → Good l x) → (scan l n o first).2 = 0 → Good l (scan l n o first).1
  | 0, _, none, _, _, h => by simp [scan] at h
  | 0, _, some x, _, hf, _ => by simpa [scan] using hf x rfl
  | n + 1, o, first, ho, hf, h => by
    rw [scan.eq_def] at h ⊢
    simp only [] at h ⊢
    by_cases h0 : (slabF l o).obj = 0
    · rw [if_pos h0] at h ⊢
      exact scan_good_all l n (o + 1) first (by omega) hf h
    · rw [if_neg h0] at h ⊢
      by_cases hg : (slabF l o).was * 8 ≤ bytesO o
      · rw [if_pos hg]
        exact ⟨o, by omega, rfl, h0⟩
      · rw [if_neg hg] at h ⊢
        refine scan_good_all l n (o + 1) _ (by omega) ?_ h
        intro x hx
        cases first
        · simp only [Option.some.injEq] at hx
          exact ⟨o, by omega, hx.symm, h0⟩
        · exact hf x (by simpa using hx)

theorem scan_err (l : Lay) : ∀ (n o : Nat) (first : Option Lay), (scan l n o first).2 = 0 ∨ (scan l n o first) = (lay0, 150)
  | 0, _, none => by simp [scan]
  | 0, _, some x => by simp [scan]
  | n + 1, o, first => by
    rw [scan.eq_def]
    simp only []
    by_cases h0 : (slabF l o).obj = 0
    · rw [if_pos h0]
      exact scan_err l n (o + 1) first
    · rw [if_neg h0]
      by_cases hg : (slabF l o).was * 8 ≤ bytesO o
      · rw [if_pos hg]; exact Or.inl rfl
      · rw [if_neg hg]; exact scan_err l n (o + 1) _

theorem scan_found (l : Lay) : ∀ (n o : Nat) (x : Lay), (scan l n o (some x)).2 = 0
  | 0, _, x => rfl
  | n + 1, o, x => by
    rw [scan.eq_def]
    simp only []
    by_cases h0 : (slabF l o).obj = 0
    · rw [if_pos h0]; exact scan_found l n (o + 1) x
    · rw [if_neg h0]
      by_cases hg : (slabF l o).was * 8 ≤ bytesO o
      · rw [if_pos hg]
      · rw [if_neg hg]; exact scan_found l n (o + 1) x

/-- If the last order has an object, one is found. -/
theorem scan_any (l : Lay) (h3 : (slabF l 3).obj ≠ 0) : ∀ (n o : Nat) (first : Option Lay), o + n = 4 → 0 < n → (scan l n o first).2 = 0
  | n + 1, o, first, ho, _ => by
    rw [scan.eq_def]
    simp only []
    by_cases h0 : (slabF l o).obj = 0
    · rw [if_pos h0]
      rcases Nat.eq_zero_or_pos n with hn | hn
      · exact absurd h0 (by rw [show o = 3 by omega]; exact h3)
      · exact scan_any l h3 n (o + 1) first (by omega) hn
    · rw [if_neg h0]
      by_cases hg : (slabF l o).was * 8 ≤ bytesO o
      · rw [if_pos hg]
      · rw [if_neg hg]
        cases first
        · exact scan_found l n (o + 1) _
        · exact scan_found l n (o + 1) _

theorem ofF_good {s a : Int} {g : Bool} (h : (ofF s a g).2 = 0) : okL s a = true ∧ Good (bodyOf s a g) (ofF s a g).1 := by
  unfold ofF at h ⊢
  cases hk : okL s a
  · rw [hk, if_neg Bool.false_ne_true] at h
    exact absurd h (by decide)
  · rw [hk, if_pos rfl] at h
    rw [if_pos rfl]
    exact ⟨rfl, scan_good_all _ 4 0 none rfl (fun x hx => by cases hx) h⟩

/-- What is known of a layout that Of gives. -/
structure Is (s a : Int) (g : Bool) (l : Lay) : Prop where
  sz : l.sz = s
  al : l.al = a
  st : l.st = upI (netOf s a g) (max 8 a)
  off : l.off = offOf a g
  ord : 0 ≤ l.ord ∧ l.ord ≤ 3
  obj : 1 ≤ l.obj ∧ l.obj ≤ 16
  was : l.was + l.obj * l.st = bytesO l.ord.toNat
  was0 : 0 ≤ l.was
  s1 : 1 ≤ s ∧ s ≤ 2048
  a1 : alB a = true
  st1 : 8 ≤ l.st ∧ l.st ≤ 3000
  off1 : 0 ≤ l.off ∧ l.off ≤ 100

theorem al_cases {a : Int} (h : alB a = true) : 1 ≤ a ∧ a ≤ 64 := by
  rcases (alB_iff a).1 h with h | h | h | h | h | h | h <;> omega

theorem ofF_is {s a : Int} {g : Bool} (h : (ofF s a g).2 = 0) : Is s a g (ofF s a g).1 := by
  obtain ⟨hk, k, hk4, hx, h0⟩ := ofF_good h
  obtain ⟨k1, k2, k3⟩ := (okL_iff s a).1 hk
  have ha := al_cases ((alB_iff a).2 k3)
  have u1 := upb (n := 8) (m := a) (by omega)
  have u2 := upb (n := netOf s a g) (m := max 8 a) (by omega)
  have hst : 8 ≤ (bodyOf s a g).st ∧ (bodyOf s a g).st ≤ 3000 := by
    have hn : 1 ≤ netOf s a g ∧ netOf s a g ≤ 2400 := by unfold netOf; split <;> omega
    have hst0 : (bodyOf s a g).st = upI (netOf s a g) (max 8 a) := rfl
    rw [hst0]
    refine ⟨?_, by omega⟩
    have h5 : upI (netOf s a g) (max 8 a) = (netOf s a g + max 8 a - 1) / max 8 a * max 8 a := rfl
    have h6 : 1 ≤ (netOf s a g + max 8 a - 1) / max 8 a := Int.le_ediv_of_mul_le (by omega) (by omega)
    have h7 : 1 * max 8 a ≤ (netOf s a g + max 8 a - 1) / max 8 a * max 8 a := Int.mul_le_mul_of_nonneg_right h6 (by omega)
    omega
  have hob := obj_nn (l := bodyOf s a g) (by omega) k
  have hsum := was_of (bodyOf s a g) k
  have hle : (slabF (bodyOf s a g) k).obj * (bodyOf s a g).st ≤ bytesO k := by
    have h4 := Int.ediv_mul_le (bytesO k) (show (bodyOf s a g).st ≠ 0 by omega)
    have h5 : (slabF (bodyOf s a g) k).obj * (bodyOf s a g).st ≤ bytesO k / (bodyOf s a g).st * (bodyOf s a g).st := Int.mul_le_mul_of_nonneg_right (show min (bytesO k / (bodyOf s a g).st) 16 ≤ _ by omega) (by omega)
    omega
  have ho16 : (slabF (bodyOf s a g) k).obj ≤ 16 := show min _ 16 ≤ 16 by omega
  rw [hx]
  exact ⟨rfl, rfl, rfl, rfl, ⟨show (0 : Int) ≤ (k : Int) by omega, show (k : Int) ≤ 3 by omega⟩, ⟨by omega, ho16⟩, hsum, by
    have : (slabF (bodyOf s a g) k).st = (bodyOf s a g).st := rfl
    rw [this] at hsum
    omega, ⟨k1, k2⟩, (alB_iff a).2 k3, hst, by
    show 0 ≤ offOf a g ∧ offOf a g ≤ 100
    unfold offOf
    split <;> omega⟩

/-- Whether a layout is one. -/
def mayF (l : Lay) : Bool := (ofF l.sz l.al (decide (0 < l.off))).2 == 0 && decide ((ofF l.sz l.al (decide (0 < l.off))).1 = l)
theorem mayF_iff (l : Lay) : mayF l = true ↔ ofF l.sz l.al (decide (0 < l.off)) = (l, 0) := by
  unfold mayF
  constructor
  · intro h
    simp only [Bool.and_eq_true, beq_iff_eq, decide_eq_true_eq] at h
    exact Prod.ext h.2 h.1
  · intro h
    rw [h]
    simp
theorem off_g {s a : Int} {g : Bool} (h : (ofF s a g).2 = 0) : decide (0 < (ofF s a g).1.off) = g := by
  have hi := ofF_is h
  rw [hi.off]
  have ha := al_cases hi.a1
  have u1 := upb (n := 8) (m := a) (by omega)
  cases g
  · simp [offOf]
  · simp only [offOf, if_true, decide_eq_true_eq]
    omega
theorem of_may {s a : Int} {g : Bool} (h : (ofF s a g).2 = 0) : mayF (ofF s a g).1 = true := by
  rw [mayF_iff, off_g h, (ofF_is h).sz, (ofF_is h).al]
  exact Prod.ext rfl h
theorem may_is {l : Lay} (h : mayF l = true) : Is l.sz l.al (decide (0 < l.off)) l := by
  rw [mayF_iff] at h
  have h2 := ofF_is (s := l.sz) (a := l.al) (g := decide (0 < l.off)) (by rw [h])
  rwa [h] at h2
/-- The second text's. -/
theorem may_two (l : Lay) : mayF l = true ↔ ofF l.sz l.al false = (l, 0) ∨ ofF l.sz l.al true = (l, 0) := by
  constructor
  · intro h
    rw [mayF_iff] at h
    cases hd : decide (0 < l.off)
    · rw [hd] at h; exact Or.inl h
    · rw [hd] at h; exact Or.inr h
  · intro h
    rcases h with h | h
    · have := of_may (s := l.sz) (a := l.al) (g := false) (by rw [h])
      rwa [h] at this
    · have := of_may (s := l.sz) (a := l.al) (g := true) (by rw [h])
      rwa [h] at this

def atF (l : Lay) (i : Int) : Int × Int := if mayF l = true then (if 0 ≤ i ∧ i < l.obj then (i * l.st + l.off, 0) else (0, 9)) else (0, 2)
def ixF (l : Lay) (at' : Int) : Int × Bool := if mayF l = true ∧ l.off ≤ at' ∧ (at' - l.off) % l.st = 0 ∧ (at' - l.off) / l.st < l.obj then ((at' - l.off) / l.st, true) else (0, false)

end Go.Proofs.Ytibpaomkaknbhaa
