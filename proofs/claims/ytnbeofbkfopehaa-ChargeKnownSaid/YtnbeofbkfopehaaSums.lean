/-
  Sums over groups' paths: plain.
-/
import Derived.Test.YtnbeofbkfopehaaDos
namespace Go.Proofs.Ytnbeofbkfopehaa
open Go.RowKit

def onP (h k : Nat) : Bool := (pathL h).contains ((k : Int) + 1)
/-- What is charged to group k + 1 of what the first H groups own. -/
def sumO (own : Nat → Int) (k : Nat) : Nat → Int
  | 0 => 0
  | H + 1 => sumO own k H + bif onP H k then own H else 0

theorem sumO_upd (own : Nat → Int) (k h : Nat) (x : Int) : ∀ H, sumO (upd own h x) k H = sumO own k H + bif decide (h < H) && onP h k then x - own h else 0
  | 0 => by simp [sumO]
  | H + 1 => by
    show sumO (upd own h x) k H + (bif onP H k then upd own h x H else 0) = sumO own k H + (bif onP H k then own H else 0) + _
    rw [sumO_upd own k h x H]
    rcases Nat.lt_trichotomy h H with hl | rfl | hl
    · rw [decide_eq_true hl, decide_eq_true (show h < H + 1 by omega)]
      unfold upd
      rw [if_neg (by omega)]
      omega
    · rw [decide_eq_false (Nat.lt_irrefl h), decide_eq_true (show h < h + 1 by omega)]
      unfold upd
      rw [if_pos rfl]
      cases onP h k
      · simp
      · simp only [Bool.false_and, Bool.true_and, cond_false, cond_true]; omega
    · rw [decide_eq_false (show ¬ h < H by omega), decide_eq_false (show ¬ h < H + 1 by omega)]
      unfold upd
      rw [if_neg (by omega)]
      simp
theorem sumO_zero (k : Nat) : ∀ H, sumO zeroU k H = 0
  | 0 => rfl
  | H + 1 => by
    show sumO zeroU k H + (bif onP H k then zeroU H else 0) = 0
    rw [sumO_zero k H]
    cases onP H k <;> rfl
theorem sumO_nonneg {own : Nat → Int} (h : ∀ i, 0 ≤ own i) (k : Nat) : ∀ H, 0 ≤ sumO own k H
  | 0 => Int.le_refl 0
  | H + 1 => by
    show 0 ≤ sumO own k H + (bif onP H k then own H else 0)
    have := sumO_nonneg h k H
    have := h H
    cases onP H k
    · rw [cond_false]; omega
    · rw [cond_true]; omega
theorem sumO_mono {own : Nat → Int} (h : ∀ i, 0 ≤ own i) (k : Nat) {H : Nat} : ∀ {H' : Nat}, H ≤ H' → sumO own k H ≤ sumO own k H'
  | 0, hl => by obtain rfl : H = 0 := by omega
                exact Int.le_refl _
  | H' + 1, hl => by
    rcases Nat.lt_or_ge H' H with h1 | h1
    · obtain rfl : H = H' + 1 := by omega
      exact Int.le_refl _
    · have h2 := sumO_mono h k h1
      show sumO own k H ≤ sumO own k H' + (bif onP H' k then own H' else 0)
      have := h H'
      cases onP H' k
      · rw [cond_false]; omega
      · rw [cond_true]; omega
theorem sumO_ge {own : Nat → Int} (h : ∀ i, 0 ≤ own i) {k g H : Nat} (hg : g < H) (hp : onP g k = true) : own g ≤ sumO own k H := by
  have h1 := sumO_mono h k (show g + 1 ≤ H by omega)
  have h2 : sumO own k (g + 1) = sumO own k g + own g := by
    show sumO own k g + (bif onP g k then own g else 0) = _
    rw [hp]; rfl
  have := sumO_nonneg h k g
  omega

theorem path_allG : ∀ h : Fin 16, allG (pathL h) = true := by decide
theorem path_nodup : ∀ h : Fin 16, (pathL h).Nodup := by decide
theorem path_self : ∀ h : Fin 16, onP h h = true := by decide
theorem path_len1 : ∀ h : Fin 16, 1 ≤ (pathL h).length := by decide
theorem path_ask {h : Nat} (hh : h < 16) {n : Int} (h0 : 0 ≤ n) (h1 : n ≤ 9007199254740991) : askF (pathL h) n = 0 :=
  askF_ok (path_allG ⟨h, hh⟩) (fitB_iff.2 ⟨path_nodup ⟨h, hh⟩, path_len1 ⟨h, hh⟩, Nat.le_trans (pathF_len 5 (h + 1)) (by omega), h0, h1⟩)
theorem ask_one' {h : Nat} (hh : h < 16) {n : Int} (h0 : 0 ≤ n) (h1 : n ≤ 9007199254740991) : askF [1 + (h : Int)] n = 0 := by
  refine askF_ok ?_ (fitB_iff.2 ⟨by simp, by simp, by simp, h0, h1⟩)
  have : grpB (1 + (h : Int)) = true := grpB_iff.2 (by omega)
  simp [allG, this]

/-- Counts are sums. -/
def Sums (U own : Nat → Int) : Prop := (∀ i, 0 ≤ own i) ∧ ∀ k, k < 16 → U k = sumO own k 16
theorem Sums.zero : Sums zeroU zeroU := ⟨fun _ => Int.le_refl 0, fun k _ => (sumO_zero k 16).symm⟩
theorem addP_on (U : Nat → Int) (h k : Nat) (d : Int) : addP U (pathL h) d k = U k + bif onP h k then d else 0 := by
  unfold addP onP
  by_cases hm : ((k : Int) + 1) ∈ pathL h
  · rw [if_pos hm, List.contains_iff_mem.2 hm]; rfl
  · have : (pathL h).contains ((k : Int) + 1) = false := by rw [← Bool.not_eq_true, List.contains_iff_mem]; exact hm
    rw [if_neg hm, this]; simp
theorem Sums.step {U own : Nat → Int} (h : Sums U own) {g : Nat} (hg : g < 16) {d : Int} (h0 : 0 ≤ own g + d) : Sums (addP U (pathL g) d) (upd own g (own g + d)) := by
  refine ⟨fun i => ?_, fun k hk => ?_⟩
  · unfold upd
    by_cases hi : i = g
    · rw [if_pos hi]; exact h0
    · rw [if_neg hi]; exact h.1 i
  · rw [addP_on, sumO_upd, ← h.2 k hk, decide_eq_true hg, Bool.true_and, show own g + d - own g = d by omega]
theorem Sums.le {U own : Nat → Int} (h : Sums U own) {g : Nat} (hg : g < 16) : own g ≤ U g := by
  rw [h.2 g hg]; exact sumO_ge h.1 hg (path_self ⟨g, hg⟩)
theorem Sums.low {U own : Nat → Int} (h : Sums U own) {g : Nat} (hg : g < 16) {n : Int} (hn : n ≤ own g) : lowB U n (pathL g) = true := by
  unfold lowB
  rw [List.all_eq_true]
  intro x hx
  have hG := path_allG ⟨g, hg⟩
  obtain ⟨h1, h2⟩ := grpB_iff.1 (List.all_eq_true.1 hG x hx)
  have hk : (((x - 1).toNat : Nat) : Int) + 1 = x := by omega
  have hon : onP g (x - 1).toNat = true := by
    unfold onP
    rw [List.contains_iff_mem, hk]; exact hx
  rw [decide_eq_true_eq, h.2 _ (by omega)]
  exact Int.le_trans hn (sumO_ge h.1 hg hon)

/-- The law's own numbers: place 0 is nobody's. -/
def OwnC (cs : Array Value) (own : Nat → Int) : Prop := cs.size = 17 ∧ ∀ k, k < 16 → cs[1 + k]? = some (.int .i64 (own k))
theorem OwnC.set {cs : Array Value} {own : Nat → Int} (h : OwnC cs own) {k : Nat} (hk : k < 16) (x : Int) : OwnC (cs.setIfInBounds (1 + k) (.int .i64 x)) (upd own k x) := by
  refine ⟨by simp [h.1], fun j hj => ?_⟩
  by_cases hjk : j = k
  · subst hjk
    rw [Array.getElem?_setIfInBounds_self_of_lt (by rw [h.1]; omega)]
    simp [upd]
  · rw [Array.getElem?_setIfInBounds_ne (by omega), h.2 j hj]
    simp [upd, hjk]
theorem OwnC.zero : OwnC #[.int .i64 0, .int .i64 0, .int .i64 0, .int .i64 0, .int .i64 0, .int .i64 0, .int .i64 0, .int .i64 0, .int .i64 0, .int .i64 0, .int .i64 0, .int .i64 0, .int .i64 0, .int .i64 0, .int .i64 0, .int .i64 0, .int .i64 0] zeroU := by
  refine ⟨rfl, fun k hk => ?_⟩
  obtain rfl | rfl | rfl | rfl | rfl | rfl | rfl | rfl | rfl | rfl | rfl | rfl | rfl | rfl | rfl | rfl : k = 0 ∨ k = 1 ∨ k = 2 ∨ k = 3 ∨ k = 4 ∨ k = 5 ∨ k = 6 ∨ k = 7 ∨ k = 8 ∨ k = 9 ∨ k = 10 ∨ k = 11 ∨ k = 12 ∨ k = 13 ∨ k = 14 ∨ k = 15 := by omega
  all_goals rfl

theorem Row.slice2 {w : World} {base : Nat} {e : TypeId} {v : Value} {n : Nat} {xs : List Value} (h : w.ownsRow base e 1 v n xs) : ∃ A c, v = .slice A n c ∧ Row w A xs ∧ ∀ g off, A = some ⟨g, off, none⟩ → base ≤ g := by
  have h' := h
  obtain ⟨_, ⟨rfl, rfl⟩ | ⟨g, cap, cur, rfl, hb, _⟩⟩ := h
  · exact ⟨none, 0, rfl, Row.of_own h', fun g off e => by cases e⟩
  · exact ⟨_, cap, rfl, Row.of_own h', fun g' off e => by injection e with e; injection e with e; omega⟩

end Go.Proofs.Ytnbeofbkfopehaa
