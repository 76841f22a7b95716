/-
  The reference's Move.
-/
import Derived.Test.YtehmegnmfpfopaaRefC
import Derived.WalkKit
import Derived.Deep.DeepMust
import Derived.WalkSpells
import Derived.WalkLawsBesides
import Derived.Handy
import Derived.Lib.Hide
import Derived.Deep.QuietTactic
import Derived.BigQuiet
namespace Go.Proofs.Ytehmegnmfpfopaa
open Go.RowKit

def partF (F : Int → Int → Int) (f t : Int) (s i : Nat) : Int → Int → Int := fun x y => if (x < s ∨ (x = s ∧ y < i)) ∧ F x y = f then t else F x y
section
variable {B r S O ga c : Nat} {F : Int → Int → Int} {gs : List Nat} {f t : Int}
theorem part_start (hF : ∀ x y, F x y ≠ 0 → (0 ≤ x ∧ x < S ∧ 0 ≤ y ∧ y < O)) (hf : f ≠ 0) : partF F f t 0 0 = F := by
  funext x y
  unfold partF
  refine if_neg fun h => ?_
  have := hF x y (by rw [h.2]; exact hf)
  omega
theorem part_row (hF : ∀ x y, F x y ≠ 0 → (0 ≤ x ∧ x < S ∧ 0 ≤ y ∧ y < O)) (hf : f ≠ 0) (s : Nat) : partF F f t s O = partF F f t (s + 1) 0 := by
  funext x y
  unfold partF
  by_cases h : F x y = f
  · have := hF x y (by rw [h]; exact hf)
    by_cases h2 : x < s ∨ (x = s ∧ y < O)
    · rw [if_pos ⟨h2, h⟩, if_pos ⟨by omega, h⟩]
    · rw [if_neg (fun e => h2 e.1), if_neg (fun e => h2 (by omega))]
  · rw [if_neg (fun e => h e.2), if_neg (fun e => h e.2)]
theorem part_end (hF : ∀ x y, F x y ≠ 0 → (0 ≤ x ∧ x < S ∧ 0 ≤ y ∧ y < O)) (hf : f ≠ 0) : partF F f t S 0 = moveF F f t := by
  funext x y
  unfold partF moveF
  by_cases h : F x y = f
  · have := hF x y (by rw [h]; exact hf)
    rw [if_pos ⟨by omega, h⟩, if_pos h]
  · rw [if_neg (fun e => h e.2), if_neg h]
theorem part_hit {s i : Nat} (h : F (s : Int) (i : Int) = f) : putF (partF F f t s i) (s : Int) (i : Int) t = partF F f t s (i + 1) := by
  funext x y
  unfold putF partF
  by_cases e : x = (s : Int) ∧ y = (i : Int)
  · rw [if_pos e, if_pos ⟨by omega, by rw [e.1, e.2]; exact h⟩]
  · rw [if_neg e]
    by_cases h2 : (x < s ∨ (x = s ∧ y < i)) ∧ F x y = f
    · rw [if_pos h2, if_pos ⟨by omega, h2.2⟩]
    · rw [if_neg h2, if_neg (fun h3 => h2 ⟨by omega, h3.2⟩)]
theorem part_miss {s i : Nat} (h : F (s : Int) (i : Int) ≠ f) : partF F f t s i = partF F f t s (i + 1) := by
  funext x y
  unfold partF
  by_cases h2 : (x < s ∨ (x = s ∧ y < i)) ∧ F x y = f
  · rw [if_pos h2, if_pos ⟨by omega, h2.2⟩]
  · rw [if_neg h2, if_neg (fun h3 => by
      by_cases e : x = (s : Int) ∧ y = (i : Int)
      · exact h (by rw [← e.1, ← e.2]; exact h3.2)
      · exact h2 ⟨by omega, h3.2⟩)]
theorem part_at {s i : Nat} : partF F f t s i (s : Int) (i : Int) = F (s : Int) (i : Int) := by
  unfold partF
  exact if_neg (fun h => by omega)

set_option maxRecDepth 100000 in
set_option maxHeartbeats 4000000 in
theorem rmove_any (w : World) (h : RefIn w B r S O F ga c gs) (hF : ∀ x y, F x y ≠ 0 → (0 ≤ x ∧ x < S ∧ 0 ≤ y ∧ y < O)) (f t : Int) : Calls Try.prog 15 #[.pointer (some ⟨r, 0, none⟩), .int .i64 f, .int .i64 t] w fun e w' =>
    e = .returned (.tuple #[.int .i64 (moveN S O F f t), .int .i64 (moveE f t)]) ∧ RefIn w' B r S O (movedF F f t) ga c gs ∧ Rws gs w w' := by
  unfold moveN moveE movedF
  cases hf : grpB f with
  | false =>
    go_enter Try.func15, Try.ntmps15
    go_wp2_with (first | (go_at_call 24; (with_reducible refine (rgroup_any f _).mono ?_); rintro e wq ⟨rfl, hwq⟩; replace hwq := hwq.symm; subst hwq; rw [hf]))
    go_ret2
    exact ⟨rfl, h, Rws.refl _ _⟩
  | true =>
    cases ht : grpB t with
    | false =>
      go_enter Try.func15, Try.ntmps15
      go_wp2_with (first | (go_at_call 24; (with_reducible refine (rgroup_any f _).mono ?_); rintro e wq ⟨rfl, hwq⟩; replace hwq := hwq.symm; subst hwq; rw [hf]) | (go_at_call 24; (with_reducible refine (rgroup_any t _).mono ?_); rintro e wq ⟨rfl, hwq⟩; replace hwq := hwq.symm; subst hwq; rw [ht]))
      go_ret2
      exact ⟨rfl, h, Rws.refl _ _⟩
    | true =>
      by_cases hft : f = t
      · subst hft
        rw [decide_eq_true rfl, moveF_same]
        go_enter Try.func15, Try.ntmps15
        go_wp2_with (first | (go_at_call 24; (with_reducible refine (rgroup_any f _).mono ?_); rintro e wq ⟨rfl, hwq⟩; replace hwq := hwq.symm; subst hwq; rw [hf]))
        go_ret2
        exact ⟨rfl, h, Rws.refl _ _⟩
      · have hgf := grpB_iff.1 hf
        have hfb : (f == t) = false := by simpa using hft
        have hf0 : f ≠ 0 := by omega
        have hS : (S : Int) ≤ 256 := by have := h.s2; omega
        have hO : (O : Int) ≤ 16 := by have := h.o2; omega
        have P0 := Lib.hid (part_start (t := t) hF hf0)
        have PR := Lib.hid (part_row (t := t) hF hf0)
        have PE := Lib.hid (part_end (t := t) hF hf0)
        obtain ⟨p, hp⟩ : ∃ p, Hid (isG F f = p) := ⟨_, Lib.hid rfl⟩
        unfold cntF
        rw [decide_eq_false hft, hp.out, cntP_rows]
        have HR : Hid (RefIn w B r S O (partF F f t 0 0) ga c gs) := Lib.hid (by rw [P0.out]; exact h)
        clear h
        go_enter Try.func15, Try.ntmps15
        go_wp2_with (first | (go_at_call 24; (with_reducible refine (rgroup_any f _).mono ?_); rintro e wq ⟨rfl, hwq⟩; replace hwq := hwq.symm; subst hwq; rw [hf]) | (go_at_call 24; (with_reducible refine (rgroup_any t _).mono ?_); rintro e wq ⟨rfl, hwq⟩; replace hwq := hwq.symm; subst hwq; rw [ht]))
        go_loopw [8, 9, 10] (fun q1 q2 _ wr => ∃ s : Nat, s ≤ S ∧ q2 = .int .i64 s ∧ q1 = .int .i64 (rowsP p O s : Int) ∧ Hid (RefIn wr B r S O (partF F f t s 0) ga c gs) ∧ Rws gs w wr) (fun _ q2 _ _ => S - (intOf q2).toNat)
        case atStart => exact ⟨0, by omega, rfl, by rw [rowsP_zero]; rfl, HR, Rws.refl _ _⟩
        case round =>
          clear HR
          obtain ⟨s, hs, rfl, rfl, HR, hb⟩ := hrel
          have c0 := HR.out.cell0
          have s0 : (0 : Int) ≤ (s : Int) := by omega
          by_cases hsS : s < S
          · have s1 : (s : Int) < (S : Int) := by omega
            have hsm := rowsP_small p (O := O) (s := s) (by omega) (by omega)
            obtain ⟨N, hN⟩ : ∃ N, Hid (rowsP p O s = N) := ⟨_, Lib.hid rfl⟩
            rw [hN.out] at hsm ⊢
            go_wp2
            go_loopw [8, 10] (fun q1 q2 w2 => ∃ i : Nat, i ≤ O ∧ q2 = .int .i64 i ∧ q1 = .int .i64 ((N + rowP p s i : Nat) : Int) ∧ Hid (RefIn w2 B r S O (partF F f t s i) ga c gs) ∧ Rws gs w w2) (fun _ q2 _ => O - (intOf q2).toNat)
            case atStart => exact ⟨0, by omega, rfl, by rw [rowP_zero]; rfl, HR, hb⟩
            case round =>
              clear HR hb c0
              obtain ⟨i, hi, rfl, rfl, HR, hb⟩ := hrel
              have c0 := HR.out.cell0
              obtain ⟨b1, hb1, c1, c2, f2, hst2⟩ := HR.out.cellS hsS
              have i0 : (0 : Int) ≤ (i : Int) := by omega
              by_cases hiO : i < O
              · have i1 : (i : Int) < (O : Int) := by omega
                have c3 := c2 i hiO
                rw [part_at] at c3
                have f3 := f2 i
                have HST := Lib.hid (hst2 i t hiO)
                clear c2 f2 hst2
                have hst := rowP_succ p s i
                have hrl := rowP_le p s i
                obtain ⟨M, hM⟩ : ∃ M, Hid (rowP p s i = M) := ⟨_, Lib.hid rfl⟩
                rw [hM.out] at hst hrl ⊢
                by_cases he : F (s : Int) (i : Int) = f
                · have hpt : p (s : Int) (i : Int) = true := by rw [← hp.out]; exact decide_eq_true ⟨by omega, he⟩
                  rw [hpt, if_pos rfl] at hst
                  go_wp2
                  go_roundw
                  case rel => exact ⟨i + 1, by omega, by go_num, by rw [hst]; go_num, by rw [← part_hit he]; exact HST, hb.set hb1 _ _⟩
                  case measure => simp [intOf]; omega
                · have hpt : p (s : Int) (i : Int) = false := by rw [← hp.out]; exact decide_eq_false (fun h => he h.2)
                  rw [hpt, if_neg (by simp)] at hst
                  go_wp2
                  go_roundw
                  case rel => exact ⟨i + 1, by omega, by go_num, by rw [hst]; rfl, by rw [← part_miss he]; exact HR, hb⟩
                  case measure => simp [intOf]; omega
              · clear c2 f2 hst2
                have i1 : ¬ (i : Int) < (O : Int) := by omega
                obtain rfl : i = O := by omega
                have hnx := rowsP_succ p i s
                rw [hN.out] at hnx
                go_wp2
                go_roundw
                case rel => exact ⟨s + 1, by omega, by go_num, by rw [hnx], by rw [← PR.out]; exact HR, hb⟩
                case measure => simp [intOf]; omega
          · have s1 : ¬ (s : Int) < (S : Int) := by omega
            obtain rfl : s = S := by omega
            have hE := HR.out
            rw [PE.out] at hE
            go_wp2
            go_ret2
            exact ⟨rfl, hE, hb⟩
end

end Go.Proofs.Ytehmegnmfpfopaa
