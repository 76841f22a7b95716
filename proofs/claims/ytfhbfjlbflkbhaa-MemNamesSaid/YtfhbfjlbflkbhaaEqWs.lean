/-
  EqWords over lists of natural numbers.
-/
import Derived.Test.YtfhbfjlbflkbhaaEqWords
import Derived.Test.YtfhbfjlbflkbhaaState
namespace Go.Proofs.Ytfhbfjlbflkbhaa
open Go.RowKit

theorem Row.of_blk {w : World} {g : Nat} {t : TypeId} {cs : Array Value} (h : Blk w g t cs) {xs : List Value} (e : cs.toList = xs) : Row w (some ⟨g, 0, none⟩) xs := fun _ =>
  ⟨g, 0, rfl, h.lt, fun j u hu => by rw [Nat.zero_add, h.cell, ← Array.getElem?_toList, e]; exact hu⟩
def natI (l : List Nat) : List Int := l.map fun (n : Nat) => (n : Int)
theorem natI_words (l : List Nat) : wordsV (natI l) = wordV l := by simp [wordsV, natI, wordV]
theorem natI_len (l : List Nat) : (natI l).length = l.length := by simp [natI]
theorem natI_inj {a b : List Nat} (h : natI a = natI b) : a = b := by
  apply List.ext_getElem?
  intro i
  have := congrArg (fun l : List Int => l[i]?) h
  simp only [natI, List.getElem?_map] at this
  cases ha : a[i]? with
  | none => rw [ha] at this; cases hb : b[i]? with
    | none => rfl
    | some y => rw [hb] at this; simp at this
  | some x => rw [ha] at this; cases hb : b[i]? with
    | none => rw [hb] at this; simp at this
    | some y => rw [hb] at this; simp at this; rw [show x = y by omega]
theorem natI_eq (a b : List Nat) : decide (natI a = natI b) = decide (a = b) := by
  by_cases h : a = b
  · rw [h]; simp
  · rw [decide_eq_false h, decide_eq_false (fun e => h (natI_inj e))]
theorem eqWs (xs ys : List Nat) (n m : Nat) (r : Bool) (hn : xs.length = n) (hm : ys.length = m) (hn' : n ≤ 9223372036854775807) (hm' : m ≤ 9223372036854775807) (hr : decide (xs = ys) = r) (A B : Option Addr) (c d : Nat) (w : World)
    (hA : Row w A (wordV xs)) (hB : Row w B (wordV ys)) : Calls Try.prog 21 #[.slice A n c, .slice B m d] w fun e w' => e = .returned (.bool r) ∧ Below w.heap.size w w' := by
  subst hn hm hr
  have := eqWords_any (natI xs) (natI ys) A B c d w (by rw [natI_len]; exact hn') (by rw [natI_len]; exact hm') (by rw [natI_words]; exact hA) (by rw [natI_words]; exact hB)
  rwa [natI_len, natI_len, natI_eq] at this

end Go.Proofs.Ytfhbfjlbflkbhaa
