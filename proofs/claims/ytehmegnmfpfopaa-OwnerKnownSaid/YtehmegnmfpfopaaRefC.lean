/-
  The reference's Count, Empty, Move.
-/
import Derived.Test.YtehmegnmfpfopaaRefB
import Derived.WalkKit
import Derived.Deep.DeepMust
import Derived.WalkSpells
import Derived.WalkLawsBesides
import Derived.Handy
import Derived.Lib.Hide
import Derived.Deep.QuietTactic
import Derived.BigQuiet
namespace Go.Proofs.Ytehmegnmfpfopaa
open Go.RowKit

section
variable {B r S O ga c : Nat} {F : Int → Int → Int} {gs : List Nat}
theorem cntF_none {g : Int} (hF : ∀ x y, F x y ≠ 0 → 1 ≤ F x y ∧ F x y ≤ 16) (hg : grpB g = false) : cntF S O F g = 0 :=
  cntP_zero fun x y _ _ _ _ => by
    unfold isG
    refine decide_eq_false fun h => ?_
    have h1 := hF x y h.1
    rw [h.2] at h1
    rw [grpB_iff.2 h1] at hg
    cases hg
theorem rowP_le (p : Int → Int → Bool) (s i : Nat) : rowP p s i ≤ i := by
  unfold rowP
  have := List.countP_le_length (p := fun (j : Nat) => p (s : Int) (j : Int)) (l := List.range i)
  rwa [List.length_range] at this
theorem rowsP_le (p : Int → Int → Bool) (O : Nat) : ∀ s, rowsP p O s ≤ s * O
  | 0 => by rw [rowsP_zero]; omega
  | s + 1 => by
    have h1 := rowsP_le p O s
    have h2 := rowP_le p s O
    rw [rowsP_succ, Nat.succ_mul]; omega
theorem rowsP_small (p : Int → Int → Bool) {O s : Nat} (hO : O ≤ 16) (hs : s ≤ 256) : rowsP p O s ≤ 4096 :=
  Nat.le_trans (rowsP_le p O s) (Nat.le_trans (Nat.mul_le_mul hs hO) (by omega))

set_option maxRecDepth 100000 in
set_option maxHeartbeats 2000000 in
theorem rcount_any (w : World) (h : RefIn w B r S O F ga c gs) (hF : ∀ x y, F x y ≠ 0 → 1 ≤ F x y ∧ F x y ≤ 16) (g : Int) : Calls Try.prog 28 #[.pointer (some ⟨r, 0, none⟩), .int .i64 g] w fun e w' =>
    e = .returned (.int .i64 (cntF S O F g : Int)) ∧ w' = w := by
  have c0 := h.cell0
  have hS : (S : Int) ≤ 256 := by have := h.s2; omega
  have hS1 : (0 : Int) < (S : Int) := by have := h.s1; omega
  have hO : (O : Int) ≤ 16 := by have := h.o2; omega
  have HC := Lib.hid (fun s hs => h.cellS (s := s) hs)
  clear h
  cases hg : grpB g with
  | false =>
    rw [cntF_none hF hg]
    go_enter Try.func28, Try.ntmps28
    go_wp2
    go_loopw [5, 6] (fun q1 q2 wr => q1 = .int .i64 0 ∧ q2 = .int .i64 0 ∧ wr = w) (fun _ _ _ => 0)
    case atStart => exact ⟨rfl, rfl, rfl⟩
    case round =>
      obtain ⟨rfl, rfl, rfl⟩ := hrel
      go_wp2_with (first | (go_at_call 24; (with_reducible refine (rgroup_any g _).mono ?_); rintro e wq ⟨rfl, hwq⟩; replace hwq := hwq.symm; subst hwq; rw [hg]))
      go_ret
      exact ⟨rfl, rfl⟩
  | true =>
    have hg1 := grpB_iff.1 hg
    obtain ⟨p, hp⟩ : ∃ p, Hid (isG F g = p) := ⟨_, Lib.hid rfl⟩
    unfold cntF
    rw [hp.out, cntP_rows]
    go_enter Try.func28, Try.ntmps28
    go_wp2
    go_loopw [5, 6, 7] (fun q1 q2 _ wr => ∃ s : Nat, s ≤ S ∧ q2 = .int .i64 s ∧ q1 = .int .i64 (rowsP p O s : Int) ∧ wr = w) (fun _ q2 _ _ => S - (intOf q2).toNat)
    case atStart => exact ⟨0, by omega, rfl, by rw [rowsP_zero]; rfl, rfl⟩
    case round =>
      obtain ⟨s, hs, rfl, rfl, rfl⟩ := hrel
      have s0 : (0 : Int) ≤ (s : Int) := by omega
      by_cases hsS : s < S
      · have s1 : (s : Int) < (S : Int) := by omega
        obtain ⟨b1, -, c1, c2, -⟩ := HC.out s hsS
        have C2 := Lib.hid c2
        clear c2
        have hsm := rowsP_small p (O := O) (s := s) (by omega) (by omega)
        obtain ⟨N, hN⟩ : ∃ N, Hid (rowsP p O s = N) := ⟨_, Lib.hid rfl⟩
        rw [hN.out] at hsm ⊢
        go_wp2_with (first | (go_at_call 24; (with_reducible refine (rgroup_any g _).mono ?_); rintro e wq ⟨rfl, hwq⟩; replace hwq := hwq.symm; subst hwq; rw [hg]))
        go_loopw [5, 7] (fun q1 q2 w2 => ∃ i : Nat, i ≤ O ∧ q2 = .int .i64 i ∧ q1 = .int .i64 ((N + rowP p s i : Nat) : Int) ∧ w2 = wr) (fun _ q2 _ => O - (intOf q2).toNat)
        case atStart => exact ⟨0, by omega, rfl, by rw [rowP_zero]; rfl, rfl⟩
        case round =>
          obtain ⟨i, hi, rfl, rfl, rfl⟩ := hrel
          have i0 : (0 : Int) ≤ (i : Int) := by omega
          by_cases hiO : i < O
          · have i1 : (i : Int) < (O : Int) := by omega
            have c3 := C2.out i hiO
            have hst := rowP_succ p s i
            have hrl := rowP_le p s i
            obtain ⟨M, hM⟩ : ∃ M, Hid (rowP p s i = M) := ⟨_, Lib.hid rfl⟩
            rw [hM.out] at hst hrl ⊢
            by_cases he : F (s : Int) (i : Int) = g
            · have hpt : p (s : Int) (i : Int) = true := by rw [← hp.out]; exact decide_eq_true ⟨by omega, he⟩
              rw [hpt, if_pos rfl] at hst
              go_wp2
              go_roundw
              case rel => exact ⟨i + 1, by omega, by go_num, by rw [hst]; go_num, trivial⟩
              case measure => simp [intOf]; omega
            · have hpt : p (s : Int) (i : Int) = false := by rw [← hp.out]; exact decide_eq_false (fun h => he h.2)
              rw [hpt, if_neg (by simp)] at hst
              go_wp2
              go_roundw
              case rel => exact ⟨i + 1, by omega, by go_num, by rw [hst]; rfl, trivial⟩
              case measure => simp [intOf]; omega
          · have i1 : ¬ (i : Int) < (O : Int) := by omega
            obtain rfl : i = O := by omega
            have hnx := rowsP_succ p i s
            rw [hN.out] at hnx
            go_wp2
            go_roundw
            case rel => exact ⟨s + 1, by omega, by go_num, by rw [hnx], trivial⟩
            case measure => simp [intOf]; omega
      · have s1 : ¬ (s : Int) < (S : Int) := by omega
        obtain rfl : s = S := by omega
        go_wp2
        go_ret
        exact ⟨rfl, rfl⟩

set_option maxRecDepth 100000 in
set_option maxHeartbeats 2000000 in
theorem rempty_any (w : World) (h : RefIn w B r S O F ga c gs) (x : Int) : Calls Try.prog 26 #[.pointer (some ⟨r, 0, none⟩), .int .i64 x] w fun e w' =>
    e = .returned (.bool (emptyF S O F x)) ∧ w' = w := by
  have c0 := h.cell0
  have hS : (S : Int) ≤ 256 := by have := h.s2; omega
  have hO : (O : Int) ≤ 16 := by have := h.o2; omega
  have hO1 : (0 : Int) < (O : Int) := by have := h.o1; omega
  by_cases hin : 0 ≤ x ∧ x < S
  · obtain ⟨s, rfl⟩ : ∃ s : Nat, x = (s : Int) := ⟨x.toNat, by omega⟩
    obtain ⟨b1, -, c1, c2, -⟩ := h.cellS (s := s) (by omega)
    have C2 := Lib.hid c2
    clear c2
    obtain ⟨s0, s1⟩ := hin
    go_enter Try.func26, Try.ntmps26
    go_wp2_with (first | (go_at_call 23; (with_reducible refine (has_any _ h (s : Int) 0).mono ?_); rintro e wq ⟨rfl, hwq⟩; replace hwq := hwq.symm; subst hwq; rw [decide_eq_true (show 0 ≤ (s : Int) ∧ (s : Int) < S ∧ (0 : Int) ≤ 0 ∧ (0 : Int) < O from ⟨s0, s1, by omega, hO1⟩)]))
    go_loopw [5] (fun q wr => ∃ i : Nat, i ≤ O ∧ q = .int .i64 i ∧ (∀ j : Nat, j < i → F (s : Int) (j : Int) = 0) ∧ wr = w) (fun q _ => O - (intOf q).toNat)
    case atStart => exact ⟨0, by omega, rfl, fun j hj => absurd hj (by omega), rfl⟩
    case round =>
      obtain ⟨i, hi, rfl, hz, rfl⟩ := hrel
      have i0 : (0 : Int) ≤ (i : Int) := by omega
      by_cases hiO : i < O
      · have i1 : (i : Int) < (O : Int) := by omega
        have c3 := C2.out i hiO
        by_cases he : F (s : Int) (i : Int) = 0
        · rw [he] at c3
          go_wp2
          go_roundw
          case rel => exact ⟨i + 1, by omega, by go_num, fun j hj => by
            rcases (by omega : j < i ∨ j = i) with h1 | rfl
            · exact hz j h1
            · exact he, trivial⟩
          case measure => simp [intOf]; omega
        · have hE := emptyF_no (S := S) (O := O) (F := F) (s := (s : Int)) (y := (i : Int)) ⟨i0, i1⟩ he
          go_wp2
          go_ret
          exact ⟨by rw [hE]; rfl, rfl⟩
      · have i1 : ¬ (i : Int) < (O : Int) := by omega
        have hE := emptyF_yes (S := S) (O := O) (F := F) (s := (s : Int)) ⟨s0, s1⟩ (fun y h1 h2 => by
          obtain ⟨j, rfl⟩ : ∃ j : Nat, y = (j : Int) := ⟨y.toNat, by omega⟩
          exact hz j (by omega))
        go_wp2
        go_ret
        exact ⟨rfl, rfl⟩
  · rw [emptyF_out hin]
    go_enter Try.func26, Try.ntmps26
    go_wp2_with (first | (go_at_call 23; (with_reducible refine (has_any _ h x 0).mono ?_); rintro e wq ⟨rfl, hwq⟩; replace hwq := hwq.symm; subst hwq; rw [decide_eq_false (show ¬ (0 ≤ x ∧ x < S ∧ (0 : Int) ≤ 0 ∧ (0 : Int) < O) from fun h => hin ⟨h.1, h.2.1⟩)]))
    go_ret
    exact ⟨rfl, rfl⟩
end

end Go.Proofs.Ytehmegnmfpfopaa
