/-
  The walk of the closed law LinkNames.
-/
import Derived.Test.YtklhlhfplkmpmaaLawC
namespace Go.Proofs.Ytklhlhfplkmpmaa
open Go.RowKit

theorem linkHides_c (n i key : Int) (k : Nat) (ek : (k : Int) = key) (hk : k < 18446744073709551616) (w : World) : Calls Try.prog 3 #[.int .i64 n, .int .u64 key, .int .i64 i] w fun e w' =>
    e = .returned (.bool true) ∧ Below w.heap.size w w' := ek ▸ linkHides_any n i k hk w
/-- Fresh links, and the block that they lie in. -/
theorem fresh_g (n key : Int) (k : Nat) (ek : (k : Int) = key) (hk : k < 18446744073709551616) (xs : List Nat) (m : Nat) (e : Int) (hm : xs.length = m) (hm0 : 0 < m) (h : freshF n k = (xs, e)) (w : World) : Calls Try.prog 19 #[.int .i64 n, .int .u64 key] w fun r w' =>
    ∃ g c, r = .returned (.tuple #[.slice (some ⟨g, 0, none⟩) m c, .int .i64 e]) ∧ w.heap.size ≤ g ∧ g < w'.heap.size ∧ w'.ownsRow w.heap.size 22 1 (.slice (some ⟨g, 0, none⟩) m c) m (wordV xs) ∧ Below w.heap.size w w' := by
  refine (fresh_c n key k ek hk xs m e hm h w).mono ?_
  rintro r w' ⟨v, rfl, ho, hb⟩
  obtain ⟨g, cap, rfl, h1, h2⟩ := ho.form hm0
  exact ⟨g, cap, rfl, h1, h2, ho, hb⟩

set_option maxRecDepth 100000 in
set_option maxHeartbeats 2000000 in
theorem names_any (w : World) : Calls Try.prog 9 #[] w fun e w' => e = .returned (.bool true) ∧ Below w.heap.size w w' := by
  obtain ⟨x0, x1, x2, u, v, e1, e2, e3, e4, e5⟩ : ∃ x0 x1 x2 u v : Nat, x0 = (freshL 3 5).getD 0 0 ∧ x1 = (freshL 3 5).getD 1 0 ∧ x2 = (freshL 3 5).getD 2 0 ∧ u = (hideF 1 5 2).1.toNat ∧ v = (hideF 3 5 1).1.toNat := ⟨_, _, _, _, _, rfl, rfl, rfl, rfl, rfl⟩
  have a1 : Hid (freshF 3 5 = ([x0, x1, x2], 0)) := Lib.hid (by rw [e1, e2, e3]; decide +kernel)
  have a2 : Hid (hideF 1 5 2 = ((u : Int), 0)) := Lib.hid (by rw [e4]; decide +kernel)
  have a3 : Hid (hideF 3 5 1 = ((v : Int), 0)) := Lib.hid (by rw [e5]; decide +kernel)
  have b1 : Hid (listF [x0, x1, u] 5 0 = ([], 150)) := Lib.hid (by rw [e1, e2, e4]; decide +kernel)
  have b2 : Hid (listF [x0, x1, u] 5 3 = ([], 2)) := Lib.hid (by rw [e1, e2, e4]; decide +kernel)
  have b3 : Hid (listF [0, 0, 0, 0, 0, 0, 0, 0, 0, 0, 0, 0, 0, 0, 0, 0, 0] 5 0 = ([], 2)) := Lib.hid (by decide +kernel)
  have b4 : Hid (listF [x0, v, x2] 5 0 = ([], 150)) := Lib.hid (by rw [e1, e3, e5]; decide +kernel)
  have b5 : Hid (listF [x0, v, x2] 6 0 = ([], 150)) := Lib.hid (by rw [e1, e3, e5]; decide +kernel)
  have b6 : Hid (freshF 0 1 = ([], 2)) := Lib.hid (by decide +kernel)
  have b7 : Hid (freshF 17 1 = ([], 2)) := Lib.hid (by decide +kernel)
  have l1 : Hid (∀ x ∈ [x0, x1, u], x < 18446744073709551616) := Lib.hid (by rw [e1, e2, e4]; decide +kernel)
  have l2 : Hid (∀ x ∈ [x0, v, x2], x < 18446744073709551616) := Lib.hid (by rw [e1, e3, e5]; decide +kernel)
  have l3 : Hid (∀ x ∈ [0, 0, 0, 0, 0, 0, 0, 0, 0, 0, 0, 0, 0, 0, 0, 0, 0], x < 18446744073709551616) := Lib.hid (by decide)
  have HZ : Hid ((#[.int .u64 0, .int .u64 0, .int .u64 0, .int .u64 0, .int .u64 0, .int .u64 0, .int .u64 0, .int .u64 0, .int .u64 0, .int .u64 0, .int .u64 0, .int .u64 0, .int .u64 0, .int .u64 0, .int .u64 0, .int .u64 0, .int .u64 0] : Array Value).toList = wordV [0, 0, 0, 0, 0, 0, 0, 0, 0, 0, 0, 0, 0, 0, 0, 0, 0]) := Lib.hid rfl
  clear e1 e2 e3 e4 e5
  have hmk : ∀ w : World, (Instr.makeSlice 26 (.int .i64 17) (.int .i64 17)).run Try.prog w = .ok (.slice (some ⟨w.heap.size, 0, none⟩) 17 17) (w.alloc (.cells #[.int .u64 0, .int .u64 0, .int .u64 0, .int .u64 0, .int .u64 0, .int .u64 0, .int .u64 0, .int .u64 0, .int .u64 0, .int .u64 0, .int .u64 0, .int .u64 0, .int .u64 0, .int .u64 0, .int .u64 0, .int .u64 0, .int .u64 0] 22)) := fun _ => by kernel_rfl
  go_enter Try.func9, Try.ntmps9
  go_wp2
  go_loopw [1] (fun j wr => ∃ i : Int, -1 ≤ i ∧ i ≤ 18 ∧ j = .int .i64 i ∧ Below w.heap.size w wr) (fun j _ => (18 - intOf j).toNat)
  case atStart => exact ⟨-1, by omega, by omega, rfl, Below.refl _ _⟩
  case round =>
    obtain ⟨i, hi0, hi1, rfl, hw⟩ := hrel
    by_cases hlt : i < 18
    · go_wp2
      go_loopw [2] (fun j wr => ∃ n : Int, -2 ≤ n ∧ n ≤ 18 ∧ j = .int .i64 n ∧ Below w.heap.size w wr) (fun j _ => (18 - intOf j).toNat)
      case atStart => exact ⟨-2, by omega, by omega, rfl, hw⟩
      case round =>
        clear hw
        obtain ⟨n, hn0, hn1, rfl, hw⟩ := hrel
        have hz := hw.size
        by_cases hlt' : n < 18
        · go_wp2_with (first | (go_at_call 3; with_reducible refine (linkHides_c n i 11400714819323198485 11400714819323198485 rfl (by omega) _).mono ?_; rintro e w1 ⟨rfl, hb1⟩) | (go_at_call 3; with_reducible refine (linkHides_c n i 0 0 rfl (by omega) _).mono ?_; rintro e w2 ⟨rfl, hb2⟩))
          have z1 := hb1.size
          go_roundw
          case rel => exact ⟨n + 1, by omega, by omega, rfl, by (repeat' (first | (with_reducible exact Below.refl _ _) | (with_reducible assumption) | (with_reducible refine Below.alloc ?_ ?_ _) | (with_reducible refine below_drewN ?_ _) | (with_reducible refine Below.drew ?_) | (with_reducible refine Below.setCell ?_ ?_ _) | (with_reducible refine below_two ?_ (by with_reducible assumption)) | go_size))⟩
          case measure => simp [intOf]; omega
        · go_wp2
          go_roundw
          case rel => exact ⟨i + 1, by omega, by omega, rfl, hw⟩
          case measure => simp [intOf]; omega
    · have hz := hw.size
      go_wp2_with (first | (go_at_call 19; with_reducible refine (fresh_g 3 5 5 rfl (by omega) _ 3 0 rfl (by omega) a1.out _).mono ?_; (first | (have hz0 := hfirst; rintro e w2 ⟨g2, c2, rfl, hg2, hl2, ho2, hb2⟩; have ho1 := own_below ho1 hb2; have z2 := hb2.size) | (rintro e w1 ⟨g1, c1, rfl, hg1, hl1, ho1, hb1⟩; have hfirst := trivial; have z1 := hb1.size))) | (go_at_call 10; with_reducible refine (hide_c 1 5 2 _ _ 5 rfl (by omega) a2.out _).mono ?_; rintro e w0 ⟨rfl, hw0⟩; replace hw0 := hw0.symm; subst hw0) | (go_at_call 10; with_reducible refine (hide_c 3 5 1 _ _ 5 rfl (by omega) a3.out _).mono ?_; rintro e w0 ⟨rfl, hw0⟩; replace hw0 := hw0.symm; subst hw0; have c1 := ho1.cellAt 2 (by omega); have d1 := ho1.frozenAt 2; have c2 := ho2.cellAt 1 (by omega); have d2 := ho2.frozenAt 1))
      have hne : g1 ≠ g2 := by omega
      have s1 := ownsRow_setCell_other (ho1.stored 2 (.int .u64 (u : Int))).1 (a := ⟨g2, 1, none⟩) (fun e => hne (by injection e)) (.int .u64 (v : Int))
      have s2 := ((ownsRow_setCell_other ho2 (a := ⟨g1, 2, none⟩) (fun e => hne (by injection e with e; exact e.symm)) (.int .u64 (u : Int))).stored 1 (.int .u64 (v : Int))).1
      have r1 : Row _ (some ⟨g1, 0, none⟩) (wordV [x0, x1, u]) := Row.of_own s1
      have r2 : Row _ (some ⟨g2, 0, none⟩) (wordV [x0, v, x2]) := Row.of_own s2
      have q3 : Below w.heap.size w ((w2.setCell ⟨g1, 2, none⟩ (.int .u64 (u : Int))).setCell ⟨g2, 1, none⟩ (.int .u64 (v : Int))) := by (repeat' (first | (with_reducible exact Below.refl _ _) | (with_reducible assumption) | (with_reducible refine Below.alloc ?_ ?_ _) | (with_reducible refine below_drewN ?_ _) | (with_reducible refine Below.drew ?_) | (with_reducible refine Below.setCell ?_ ?_ _) | (with_reducible refine below_two ?_ (by with_reducible assumption)) | go_size))
      obtain ⟨w3, hw3⟩ : ∃ w3, (w2.setCell ⟨g1, 2, none⟩ (.int .u64 (u : Int))).setCell ⟨g2, 1, none⟩ (.int .u64 (v : Int)) = w3 := ⟨_, rfl⟩
      rw [hw3] at r1 r2 q3 ⊢
      have z3 := q3.size
      clear hw3 s1 s2 ho1 ho2 hb1 hb2 hw
      with_reducible refine (list_c _ 3 rfl 5 0 5 rfl (by omega) l1.out (by omega) _ 0 _ rfl b1.out _ _ _ r1).mono ?_
      rintro e w4 ⟨v4, rfl, ho4, hb4⟩
      obtain ⟨A4, c4, rfl, hr4⟩ := Row.slice ho4
      have r1 := r1.below hb4
      have r2 := r2.below hb4
      have z4 := hb4.size
      go_wp2_with (first | (go_at_call 15; with_reducible refine (list_c _ 3 rfl 5 3 5 rfl (by omega) l1.out (by omega) _ 0 _ rfl b2.out _ _ _ r1).mono ?_; rintro e w5 ⟨v5, rfl, ho5, hb5⟩; obtain ⟨A5, c5, rfl, hr5⟩ := Row.slice ho5; have r2 := (r2.below hb5).alloc (.cells #[.int .u64 0, .int .u64 0, .int .u64 0, .int .u64 0, .int .u64 0, .int .u64 0, .int .u64 0, .int .u64 0, .int .u64 0, .int .u64 0, .int .u64 0, .int .u64 0, .int .u64 0, .int .u64 0, .int .u64 0, .int .u64 0, .int .u64 0] 22); have z5 := hb5.size) | (go_at_call 15; with_reducible refine (list_c [0, 0, 0, 0, 0, 0, 0, 0, 0, 0, 0, 0, 0, 0, 0, 0, 0] 17 rfl 5 0 5 rfl (by omega) l3.out (by omega) _ 0 _ rfl b3.out _ _ _ (Row.of_blk (Blk.new w5 22 #[.int .u64 0, .int .u64 0, .int .u64 0, .int .u64 0, .int .u64 0, .int .u64 0, .int .u64 0, .int .u64 0, .int .u64 0, .int .u64 0, .int .u64 0, .int .u64 0, .int .u64 0, .int .u64 0, .int .u64 0, .int .u64 0, .int .u64 0]) HZ.out)).mono ?_; rintro e w6 ⟨v6, rfl, ho6, hb6⟩; obtain ⟨A6, c6, rfl, hr6⟩ := Row.slice ho6; have r2 := r2.below hb6; have z6 := hb6.size; rw [World.size_alloc] at z6) | (go_at_call 15; with_reducible refine (list_c _ 3 rfl 5 0 5 rfl (by omega) l2.out (by omega) _ 0 _ rfl b4.out _ _ _ r2).mono ?_; rintro e w7 ⟨v7, rfl, ho7, hb7⟩; obtain ⟨A7, c7, rfl, hr7⟩ := Row.slice ho7; have r2 := r2.below hb7; have z7 := hb7.size) | (go_at_call 15; with_reducible refine (list_c _ 3 rfl 6 0 6 rfl (by omega) l2.out (by omega) _ 0 _ rfl b5.out _ _ _ r2).mono ?_; rintro e w8 ⟨v8, rfl, ho8, hb8⟩; obtain ⟨A8, c8, rfl, hr8⟩ := Row.slice ho8; have z8 := hb8.size) | (go_at_call 19; with_reducible refine (fresh_c 0 1 1 rfl (by omega) _ 0 _ rfl b6.out _).mono ?_; rintro e w9 ⟨v9, rfl, ho9, hb9⟩; obtain ⟨A9, c9, rfl, hr9⟩ := Row.slice ho9; have z9 := hb9.size) | (go_at_call 19; with_reducible refine (fresh_c 17 1 1 rfl (by omega) _ 0 _ rfl b7.out _).mono ?_; rintro e w10 ⟨v10, rfl, ho10, hb10⟩; obtain ⟨A10, c10, rfl, hr10⟩ := Row.slice ho10; have z10 := hb10.size) | (go_at_call 14; with_reducible refine (works_any _).mono ?_; rintro e w11 ⟨rfl, hb11⟩; have z11 := hb11.size))
      go_ret
      exact ⟨rfl, by (repeat' (first | (with_reducible exact Below.refl _ _) | (with_reducible assumption) | (with_reducible refine Below.alloc ?_ ?_ _) | (with_reducible refine below_drewN ?_ _) | (with_reducible refine Below.drew ?_) | (with_reducible refine Below.setCell ?_ ?_ _) | (with_reducible refine below_two ?_ (by with_reducible assumption)) | go_size))⟩

end Go.Proofs.Ytklhlhfplkmpmaa
