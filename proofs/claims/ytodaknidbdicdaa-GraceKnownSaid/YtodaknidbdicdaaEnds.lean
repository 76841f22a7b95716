/-
  GraceEnds, at the list that GraceKnown makes.
-/
import Derived.Test.YtodaknidbdicdaaLawA
import Derived.WalkKit
import Derived.Deep.DeepMust
import Derived.WalkSpells
import Derived.WalkLawsBesides
import Derived.Handy
import Derived.Lib.Hide
import Derived.Deep.QuietTactic
import Derived.BigQuiet
namespace Go.Proofs.Ytodaknidbdicdaa
open Go.RowKit

def wl (k : Nat) : List Wt := (List.range k).map fun (i : Nat) => ⟨(i : Int), if i = 0 then 1 else 2⟩
theorem wl_len (k : Nat) : (wl k).length = k := by unfold wl; rw [List.length_map, List.length_range]
theorem wl_next (k : Nat) : wl (k + 1) = wl k ++ [⟨(k : Int), if k = 0 then 1 else 2⟩] := by unfold wl; rw [List.range_succ, List.map_append]; rfl
theorem wl_ok : ∀ k, k ≤ 200 → errC (wl k) = 0 := by decide +kernel
def X0 (k : Nat) : Gr := ⟨3, fun _ => 0, fun j => if j = 0 then wl k else [], 0, decide (0 < k), fun j => decide (j < 3) && decide (0 < k)⟩
theorem x0_zero : X0 0 = newG 3 := by
  unfold X0 newG
  congr 1
  · funext j
    split <;> rfl
  · funext j
    show (decide (j < 3) && false) = false
    exact Bool.and_false _
theorem x0_inv {k : Nat} (hk : k ≤ 200) : Inv (X0 k) := by
  refine ⟨by show 1 ≤ 3; omega, by show 3 ≤ 8; omega, fun _ => ⟨Int.le_refl _, by show (0 : Int) ≤ 8; omega⟩, fun j => ?_, fun hg j => ?_, fun j hj => ?_⟩
  · show errC (if j = 0 then wl k else []) = 0
    split
    · exact wl_ok k hk
    · rfl
  · have hg' : decide (0 < k) = false := hg
    show (decide (j < 3) && decide (0 < k)) = false
    rw [hg', Bool.and_false]
  · have hj' : 3 ≤ j := hj
    show (decide (j < 3) && decide (0 < k)) = false
    rw [decide_eq_false (by omega), Bool.false_and]
theorem x0_next {k : Nat} (hk : k < 200) : callI (X0 k) 0 (k : Int) = (X0 (k + 1), 0) := by
  have e1 : callI (X0 k) 0 (k : Int) = callG (X0 k) 0 (k : Int) := rfl
  have hL : (X0 k).L 0 = wl k := rfl
  have h3 : addF (wl k) ⟨(k : Int), if k = 0 then 1 else 2⟩ = (wl (k + 1), 0) := by
    rw [wl_next]
    exact addF_ok (wl_ok k (by omega)) (by rw [wl_len]; omega) (by rw [← wl_next]; exact wl_ok (k + 1) (by omega))
  have hc : calG (X0 k) = ((calG (X0 k)).1, if k = 0 then 1 else 2) := by
    unfold calG
    by_cases h0 : k = 0
    · subst h0; rfl
    · have : (X0 k).go = true := decide_eq_true (by omega)
      rw [this, if_neg h0]
      rfl
  rw [e1, callG_put (G1 := (calG (X0 k)).1) (r := wl (k + 1)) (er := 0) (by omega) (by rw [hL, wl_len]; omega) hc (by rw [hL]; exact h3), putG_ok]
  congr 1
  have hU : upd (fun j => if j = 0 then wl k else []) 0 (wl (k + 1)) = fun j => if j = 0 then wl (k + 1) else [] := by
    funext j
    unfold upd
    by_cases e : j = 0
    · rw [if_pos e, if_pos e]
    · rw [if_neg e, if_neg e]; exact if_neg e
  unfold calG
  by_cases h0 : k = 0
  · subst h0
    show (⟨3, fun _ => 0, upd (fun j => if j = 0 then wl 0 else []) 0 (wl (0 + 1)), 0, true, fun j => decide (j < 3) || (decide (j < 3) && false)⟩ : Gr) = ⟨3, fun _ => 0, fun j => if j = 0 then wl (0 + 1) else [], 0, true, fun j => decide (j < 3) && true⟩
    rw [hU]
    congr 1
    funext j
    cases decide (j < 3) <;> rfl
  · have hg : (X0 k).go = true := decide_eq_true (by omega)
    rw [hg, cond_true]
    show (⟨3, fun _ => 0, upd (fun j => if j = 0 then wl k else []) 0 (wl (k + 1)), 0, decide (0 < k), fun j => decide (j < 3) && decide (0 < k)⟩ : Gr) = ⟨3, fun _ => 0, fun j => if j = 0 then wl (k + 1) else [], 0, decide (0 < k + 1), fun j => decide (j < 3) && decide (0 < k + 1)⟩
    rw [hU, decide_eq_true (show 0 < k by omega), decide_eq_true (show 0 < k + 1 by omega)]

def Yq : Nat → Gr
  | 0 => X0 200
  | i + 1 => (quietI (Yq i) ((i % 3 : Nat) : Int)).1
theorem yq_all : ∀ i, i ≤ 6 → Inv (Yq i) ∧ (Yq i).C = 3 ∧ (Yq i).E ≤ i ∧ (Yq i).D = fun _ => 0
  | 0, _ => ⟨x0_inv (Nat.le_refl _), rfl, Nat.le_refl _, rfl⟩
  | i + 1, h => by
    obtain ⟨h1, h2, h3, h4⟩ := yq_all i (by omega)
    obtain ⟨v, hv⟩ : ∃ v, quietI (Yq i) ((i % 3 : Nat) : Int) = (Yq (i + 1), v) := ⟨_, rfl⟩
    obtain ⟨n1, n2, n3⟩ := quiet_nxt h1 hv
    refine ⟨n1, n3.trans h2, by omega, ?_⟩
    have e : Yq (i + 1) = (quietG (Yq i) (i % 3)).1 := by
      show (quietI (Yq i) ((i % 3 : Nat) : Int)).1 = _
      unfold quietI
      rw [decide_eq_true (by omega), cond_true, Int.toNat_natCast]
    rw [e, ← h4]
    unfold quietG
    cases decide (0 < (Yq i).D (i % 3)) <;> cases (Yq i).go <;> cases needsG (needG (Yq i) (i % 3)) <;> cases laterG (endG (needG (Yq i) (i % 3))) <;> rfl
theorem yq_next {i : Nat} (h : i < 6) : quietI (Yq i) ((i % 3 : Nat) : Int) = (Yq (i + 1), 0) := by
  obtain ⟨h1, h2, h3, h4⟩ := yq_all i (by omega)
  refine pair_of ?_
  unfold quietI
  rw [decide_eq_true (by omega), cond_true, Int.toNat_natCast]
  unfold quietG
  rw [show decide (0 < (Yq i).D (i % 3)) = false by rw [h4]; rfl, cond_false]
  cases (Yq i).go <;> cases needsG (needG (Yq i) (i % 3)) <;> cases laterG (endG (needG (Yq i) (i % 3))) <;> rfl
theorem yq_done : (Yq 6).go = false := by decide +kernel
def Z1 : Gr := pollI (Yq 6) 0
def Z2 : Gr := pollI Z1 1
def Z3 : Gr := pollI Z2 2
theorem z_len0 : (pollL (Yq 6) 0).length = 200 := by decide +kernel
theorem z_len1 : (pollL Z1 1).length = 0 := by decide +kernel
theorem z_len2 : (pollL Z2 2).length = 0 := by decide +kernel
theorem z_w0 : waiF Z1 0 = 0 := by decide +kernel
theorem z_w1 : waiF Z2 1 = 0 := by decide +kernel
theorem z_w2 : waiF Z3 2 = 0 := by decide +kernel
theorem z_e0 : pollE (Yq 6) 0 = 0 := by decide +kernel
theorem z_e1 : pollE Z1 1 = 0 := by decide +kernel
theorem z_e2 : pollE Z2 2 = 0 := by decide +kernel

end Go.Proofs.Ytodaknidbdicdaa
