/-
  The walk of the law CountBack, and of the closed law CountNames.
-/
import Derived.Test.YtmljiklddjladaaLawC
namespace Go.Proofs.Ytmljiklddjladaa
open Go.RowKit

theorem bool_not {a b : Bool} (h : a ≠ b) : a = !b := by cases a <;> cases b <;> simp_all

theorem countBack_any (i1 o1 : Int) (f1 l1 : Bool) (i2 o2 : Int) (f2 l2 : Bool) (u : Int) (h0 : 0 ≤ u) (h1 : u < 18446744073709551616) (w : World) : Calls Try.prog 5 #[.agg #[.int .i64 i1, .int .i64 o1, .bool f1, .bool l1], .agg #[.int .i64 i2, .int .i64 o2, .bool f2, .bool l2], .int .u64 u] w fun e w' =>
    e = .returned (.bool true) ∧ Below w.heap.size w w' := by
  have hbd := packF_bd i1 o1 f1 l1
  rcases hp : packF i1 o1 f1 l1 with ⟨x, e⟩
  rcases hq : packF i2 o2 f2 l2 with ⟨y, g⟩
  rcases hc : cntF x with ⟨⟨ci, co, cf, cl⟩, is⟩
  rcases hh : headOfF (u % 4200) with ⟨s, i, hb⟩
  rcases hr : partOfF (u % 4200) with ⟨p, n, pb⟩
  rcases hs : headF s i with ⟨v, g1⟩
  rcases ht : partF p n with ⟨u1, h2⟩
  rw [hp] at hbd
  refine back_at i1 o1 i2 o2 f1 l1 f2 l2 x e y g ci co cf cl is u s i p n v g1 u1 h2 hb pb (Lib.hid hp) (Lib.hid hq) (Lib.hid hc) hbd ⟨h0, h1⟩ (Lib.hid hh) (Lib.hid hr) (Lib.hid hs) (Lib.hid ht) ?_ ?_ ?_ ?_ ?_ w
  · rintro rfl
    have := headOf_yes hh
    rw [hs] at this
    injection this
  · rintro rfl
    have := headOf_yes hh
    rw [hs] at this
    injection this
  · rintro rfl
    have := partOf_yes hr
    rw [ht] at this
    injection this
  · rintro rfl
    have := partOf_yes hr
    rw [ht] at this
    injection this
  · cases m1 : mayC i1 o1 f1 l1
    · rw [packF_no m1] at hp
      injection hp with _ h
      exact Or.inl h.symm
    · rw [packF_yes m1] at hp
      injection hp with hx he
      rw [← hx, cnt_pack m1] at hc
      simp only [Prod.mk.injEq, Cnt.mk.injEq] at hc
      obtain ⟨⟨rfl, rfl, rfl, rfl⟩, rfl⟩ := hc
      refine Or.inr ⟨he.symm, rfl, rfl, rfl, rfl, rfl, ?_⟩
      cases m2 : mayC i2 o2 f2 l2
      · rw [packF_no m2] at hq
        injection hq with _ h
        exact Or.inl h.symm
      · rw [packF_yes m2] at hq
        injection hq with hy hg
        refine Or.inr ⟨hg.symm, ?_⟩
        by_cases hxy : x = y
        · have c1 := cnt_pack m1
          rw [hx, hxy, ← hy, cnt_pack m2] at c1
          simp only [Prod.mk.injEq, Cnt.mk.injEq] at c1
          obtain ⟨⟨rfl, rfl, rfl, rfl⟩, -⟩ := c1
          exact Or.inl ⟨by rw [beq_iff_eq]; exact hxy, rfl, rfl, rfl, rfl⟩
        · refine Or.inr ⟨by rw [beq_eq_false_iff_ne]; exact hxy, ?_⟩
          by_cases hi : i1 = i2
          · by_cases ho : o1 = o2
            · by_cases hf : f1 = f2
              · by_cases hl : l1 = l2
                · exact absurd (by rw [← hx, ← hy, hi, ho, hf, hl]) hxy
                · exact Or.inr (Or.inr (Or.inr ⟨hi, ho, hf, bool_not hl⟩))
              · exact Or.inr (Or.inr (Or.inl ⟨hi, ho, bool_not hf⟩))
            · exact Or.inr (Or.inl ⟨hi, by rw [beq_eq_false_iff_ne]; exact ho⟩)
          · exact Or.inl (by rw [beq_eq_false_iff_ne]; exact hi)

def headN (n : Nat) : Nat := (List.range n).foldl (fun (k : Nat) (w : Nat) => if (headOfF (w : Int)).2.2 = true then k + 1 else k) 0
def partN (n : Nat) : Nat := (List.range n).foldl (fun (k : Nat) (w : Nat) => if (partOfF (w : Int)).2.2 = true then k + 1 else k) 0
theorem headN_succ (n : Nat) : headN (n + 1) = if (headOfF (n : Int)).2.2 = true then headN n + 1 else headN n := by unfold headN; rw [List.range_succ, List.foldl_append, List.foldl_cons, List.foldl_nil]
theorem partN_succ (n : Nat) : partN (n + 1) = if (partOfF (n : Int)).2.2 = true then partN n + 1 else partN n := by unfold partN; rw [List.range_succ, List.foldl_append, List.foldl_cons, List.foldl_nil]
theorem headN_le : ∀ n, headN n ≤ n
  | 0 => Nat.le_refl _
  | n + 1 => by have := headN_le n; rw [headN_succ]; split <;> omega
theorem partN_le : ∀ n, partN n ≤ n
  | 0 => Nat.le_refl _
  | n + 1 => by have := partN_le n; rw [partN_succ]; split <;> omega
set_option maxRecDepth 100000 in
theorem headN_all : headN 4200 = 545 := by decide +kernel
set_option maxRecDepth 100000 in
theorem partN_all : partN 4200 = 2017 := by decide +kernel

def cnts8 : Array Value := #[.int .i64 0, .int .i64 0, .bool false, .bool false, .int .i64 0, .int .i64 0, .bool false, .bool true, .int .i64 0, .int .i64 1, .bool false, .bool false, .int .i64 2, .int .i64 1, .bool false, .bool true,
  .int .i64 0, .int .i64 17, .bool false, .bool true, .int .i64 16, .int .i64 16, .bool false, .bool true, .int .i64 0, .int .i64 0, .bool true, .bool false, .int .i64 (-1), .int .i64 5, .bool false, .bool true]

set_option maxRecDepth 100000 in
set_option maxHeartbeats 2000000 in
theorem names_any (w : World) : Calls Try.prog 7 #[] w fun e w' => e = .returned (.bool true) ∧ Below w.heap.size w w' := by
  have a1 := Lib.hid (show packF 0 0 false false = (0, 0) by decide +kernel)
  have a2 := Lib.hid (show packF 0 0 false true = (0, 2) by decide +kernel)
  have a3 := Lib.hid (show packF 0 1 false false = (0, 2) by decide +kernel)
  have a4 := Lib.hid (show packF 2 1 false true = (0, 2) by decide +kernel)
  have a5 := Lib.hid (show packF 0 17 false true = (0, 2) by decide +kernel)
  have a6 := Lib.hid (show packF 16 16 false true = (135184, 0) by decide +kernel)
  have a7 := Lib.hid (show packF 0 0 true false = (0, 2) by decide +kernel)
  have a8 := Lib.hid (show packF (-1) 5 false true = (0, 2) by decide +kernel)
  have a9 := Lib.hid (show cntF 262144 = (⟨0, 0, false, false⟩, false) by decide +kernel)
  have a10 := Lib.hid (show headOfF 9223372036854775808 = (-1, -1, false) by decide +kernel)
  have a11 := Lib.hid (show partOfF 9223372036854775873 = (-1, 0, false) by decide +kernel)
  go_enter Try.func7, Try.ntmps7
  go_wp2
  go_loop [3, 1, 2] (fun j a b => ∃ k : Nat, k ≤ 4200 ∧ j = .int .u64 k ∧ a = .int .i64 (headN k) ∧ b = .int .i64 (partN k)) (fun j _ _ => 4200 - (intOf j).toNat)
  case atStart => exact ⟨0, by omega, rfl, rfl, rfl⟩
  case round =>
    obtain ⟨k, hk, rfl, rfl, rfl⟩ := hrel
    have hl1 := headN_le k
    have hl2 := partN_le k
    by_cases hlt : k < 4200
    · rcases hh : headOfF (k : Int) with ⟨s, i, hb⟩
      rcases hr : partOfF (k : Int) with ⟨p, n, pb⟩
      have S1 := Lib.hid (headN_succ k)
      have S2 := Lib.hid (partN_succ k)
      rw [hh] at S1
      rw [hr] at S2
      have HH := Lib.hid hh
      have HP := Lib.hid hr
      clear hh hr
      cases hb <;> cases pb
      all_goals
        go_wp2_with (first | (go_at_call 17; with_reducible refine (headOf_at k _ _ _ (by omega) (by omega) HH.out _).mono ?_; rintro e w0 ⟨rfl, hw0⟩; replace hw0 := hw0.symm; subst hw0) | (go_at_call 19; with_reducible refine (partOf_at k _ _ _ (by omega) (by omega) HP.out _).mono ?_; rintro e w0 ⟨rfl, hw0⟩; replace hw0 := hw0.symm; subst hw0))
        go_round
        case rel => exact ⟨k + 1, by omega, by go_num, by rw [S1.out]; go_num, by rw [S2.out]; go_num⟩
        case measure => simp [intOf]; omega
    · have hk' : k = 4200 := by omega
      subst hk'
      rw [headN_all, partN_all]
      clear hl1 hl2 hk hlt
      go_wp2
      have b0 : Blk (w.alloc (.cells cnts8 23)) w.heap.size 23 cnts8 := Blk.new w 23 _
      unfold cnts8 at b0
      go_loopw [11] (fun j wr => ∃ k : Nat, k ≤ 8 ∧ j = .int .i64 k ∧ Blk wr w.heap.size 23 cnts8 ∧ Below w.heap.size w wr) (fun j _ => 8 - (intOf j).toNat)
      case atStart => exact ⟨0, by omega, rfl, b0, by (repeat' (first | (with_reducible exact Below.refl _ _) | (with_reducible assumption) | (with_reducible refine Below.alloc ?_ ?_ _) | (with_reducible refine below_drewN ?_ _) | (with_reducible refine Below.drew ?_) | (with_reducible refine Below.setCell ?_ ?_ _) | (with_reducible refine below_two ?_ (by with_reducible assumption)) | go_size))⟩
      case round =>
        obtain ⟨k, hk, rfl, p1, hw⟩ := hrel
        have hz := hw.size
        have n1 := p1.lt
        have c1 := p1.cell
        unfold cnts8 at c1
        by_cases hlt : k < 8
        · obtain rfl | rfl | rfl | rfl | rfl | rfl | rfl | rfl : k = 0 ∨ k = 1 ∨ k = 2 ∨ k = 3 ∨ k = 4 ∨ k = 5 ∨ k = 6 ∨ k = 7 := by omega
          all_goals
            go_wp2_with (first | (go_at_call 8; with_reducible refine (pack_at _ _ _ _ _ _ a1.out _).mono ?_; rintro e w1 ⟨rfl, hb1⟩) | (go_at_call 8; with_reducible refine (pack_at _ _ _ _ _ _ a2.out _).mono ?_; rintro e w1 ⟨rfl, hb1⟩) | (go_at_call 8; with_reducible refine (pack_at _ _ _ _ _ _ a3.out _).mono ?_; rintro e w1 ⟨rfl, hb1⟩) | (go_at_call 8; with_reducible refine (pack_at _ _ _ _ _ _ a4.out _).mono ?_; rintro e w1 ⟨rfl, hb1⟩) | (go_at_call 8; with_reducible refine (pack_at _ _ _ _ _ _ a5.out _).mono ?_; rintro e w1 ⟨rfl, hb1⟩) | (go_at_call 8; with_reducible refine (pack_at _ _ _ _ _ _ a6.out _).mono ?_; rintro e w1 ⟨rfl, hb1⟩) | (go_at_call 8; with_reducible refine (pack_at _ _ _ _ _ _ a7.out _).mono ?_; rintro e w1 ⟨rfl, hb1⟩) | (go_at_call 8; with_reducible refine (pack_at _ _ _ _ _ _ a8.out _).mono ?_; rintro e w1 ⟨rfl, hb1⟩))
            have p2 := p1.below hb1
            go_roundw
            case rel => first | exact ⟨1, by omega, rfl, p2, by (repeat' (first | (with_reducible exact Below.refl _ _) | (with_reducible assumption) | (with_reducible refine Below.alloc ?_ ?_ _) | (with_reducible refine below_drewN ?_ _) | (with_reducible refine Below.drew ?_) | (with_reducible refine Below.setCell ?_ ?_ _) | (with_reducible refine below_two ?_ (by with_reducible assumption)) | go_size))⟩ | exact ⟨2, by omega, rfl, p2, by (repeat' (first | (with_reducible exact Below.refl _ _) | (with_reducible assumption) | (with_reducible refine Below.alloc ?_ ?_ _) | (with_reducible refine below_drewN ?_ _) | (with_reducible refine Below.drew ?_) | (with_reducible refine Below.setCell ?_ ?_ _) | (with_reducible refine below_two ?_ (by with_reducible assumption)) | go_size))⟩ | exact ⟨3, by omega, rfl, p2, by (repeat' (first | (with_reducible exact Below.refl _ _) | (with_reducible assumption) | (with_reducible refine Below.alloc ?_ ?_ _) | (with_reducible refine below_drewN ?_ _) | (with_reducible refine Below.drew ?_) | (with_reducible refine Below.setCell ?_ ?_ _) | (with_reducible refine below_two ?_ (by with_reducible assumption)) | go_size))⟩ | exact ⟨4, by omega, rfl, p2, by (repeat' (first | (with_reducible exact Below.refl _ _) | (with_reducible assumption) | (with_reducible refine Below.alloc ?_ ?_ _) | (with_reducible refine below_drewN ?_ _) | (with_reducible refine Below.drew ?_) | (with_reducible refine Below.setCell ?_ ?_ _) | (with_reducible refine below_two ?_ (by with_reducible assumption)) | go_size))⟩ | exact ⟨5, by omega, rfl, p2, by (repeat' (first | (with_reducible exact Below.refl _ _) | (with_reducible assumption) | (with_reducible refine Below.alloc ?_ ?_ _) | (with_reducible refine below_drewN ?_ _) | (with_reducible refine Below.drew ?_) | (with_reducible refine Below.setCell ?_ ?_ _) | (with_reducible refine below_two ?_ (by with_reducible assumption)) | go_size))⟩ | exact ⟨6, by omega, rfl, p2, by (repeat' (first | (with_reducible exact Below.refl _ _) | (with_reducible assumption) | (with_reducible refine Below.alloc ?_ ?_ _) | (with_reducible refine below_drewN ?_ _) | (with_reducible refine Below.drew ?_) | (with_reducible refine Below.setCell ?_ ?_ _) | (with_reducible refine below_two ?_ (by with_reducible assumption)) | go_size))⟩ | exact ⟨7, by omega, rfl, p2, by (repeat' (first | (with_reducible exact Below.refl _ _) | (with_reducible assumption) | (with_reducible refine Below.alloc ?_ ?_ _) | (with_reducible refine below_drewN ?_ _) | (with_reducible refine Below.drew ?_) | (with_reducible refine Below.setCell ?_ ?_ _) | (with_reducible refine below_two ?_ (by with_reducible assumption)) | go_size))⟩ | exact ⟨8, by omega, rfl, p2, by (repeat' (first | (with_reducible exact Below.refl _ _) | (with_reducible assumption) | (with_reducible refine Below.alloc ?_ ?_ _) | (with_reducible refine below_drewN ?_ _) | (with_reducible refine Below.drew ?_) | (with_reducible refine Below.setCell ?_ ?_ _) | (with_reducible refine below_two ?_ (by with_reducible assumption)) | go_size))⟩
            case measure => simp [intOf]
        · go_wp2_with (first | (go_at_call 10; with_reducible refine (counts_at 262144 _ _ _ _ _ (by omega) (by omega) a9.out _).mono ?_; rintro e w1 ⟨rfl, hb1⟩) | (go_at_call 17; with_reducible refine (headOf_at 9223372036854775808 _ _ _ (by omega) (by omega) a10.out _).mono ?_; rintro e w0 ⟨rfl, hw0⟩; replace hw0 := hw0.symm; subst hw0) | (go_at_call 19; with_reducible refine (partOf_at 9223372036854775873 _ _ _ (by omega) (by omega) a11.out _).mono ?_; rintro e w0 ⟨rfl, hw0⟩; replace hw0 := hw0.symm; subst hw0) | (go_at_call 12; with_reducible refine (works_any _).mono ?_; rintro e w2 ⟨rfl, hb2⟩))
          have z1 := hb1.size
          go_ret
          exact ⟨rfl, by (repeat' (first | (with_reducible exact Below.refl _ _) | (with_reducible assumption) | (with_reducible refine Below.alloc ?_ ?_ _) | (with_reducible refine below_drewN ?_ _) | (with_reducible refine Below.drew ?_) | (with_reducible refine Below.setCell ?_ ?_ _) | (with_reducible refine below_two ?_ (by with_reducible assumption)) | go_size))⟩

end Go.Proofs.Ytmljiklddjladaa
