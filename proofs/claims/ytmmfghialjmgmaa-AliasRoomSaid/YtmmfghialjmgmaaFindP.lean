/-
  The first one of a list of specs that serves: plain lists.
-/
import Derived.Test.YtmmfghialjmgmaaPlain
namespace Go.Proofs.Ytmmfghialjmgmaa

structure Sp where
  s : Int
  a : Int
  f : Int
  deriving DecidableEq

def srv (x y : Sp) : Bool := servesB x.s x.a x.f y.s y.a y.f

def findIx (one : Sp) : List Sp → Nat → Nat × Bool
  | [], _ => (0, false)
  | x :: r, k => if srv x one = true then (k, true) else findIx one r (k + 1)

theorem findIx_nil {one : Sp} {l : List Sp} {k : Nat} (h : l.length ≤ k) : findIx one (l.drop k) k = (0, false) := by
  rw [List.drop_eq_nil_of_le h]; rfl
theorem findIx_hit {one : Sp} {l : List Sp} {k : Nat} (h : k < l.length) (hs : srv l[k] one = true) : findIx one (l.drop k) k = (k, true) := by
  rw [List.drop_eq_getElem_cons h]; simp [findIx, hs]
theorem findIx_miss {one : Sp} {l : List Sp} {k : Nat} (h : k < l.length) (hs : srv l[k] one = false) : findIx one (l.drop k) k = findIx one (l.drop (k + 1)) (k + 1) := by
  rw [List.drop_eq_getElem_cons h]; simp [findIx, hs]

end Go.Proofs.Ytmmfghialjmgmaa
