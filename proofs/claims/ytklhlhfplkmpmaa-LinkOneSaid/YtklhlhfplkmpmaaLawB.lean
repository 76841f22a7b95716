/-
  The walks of the laws LinkHides, LinkFresh and LinkBack.
-/
import Derived.Test.YtklhlhfplkmpmaaLawA
namespace Go.Proofs.Ytklhlhfplkmpmaa
open Go.RowKit

set_option maxRecDepth 100000 in
set_option maxHeartbeats 1000000 in
theorem hides_at (n i e : Int) (key a b d : Nat) (hk : key < 18446744073709551616) (ha : a < 18446744073709551616) (hb : b < 18446744073709551616) (hd : d < 18446744073709551616) (HH : Hid (hideF n key i = ((a : Int), e)))
    (eb : IntKind.u64.wrap n = (b : Int)) (ed : bits .xor .u64 (a : Int) 16 = (d : Int)) (w : World) : Calls Try.prog 3 #[.int .i64 n, .int .u64 key, .int .i64 i] w fun e w' =>
    e = .returned (.bool true) ∧ Below w.heap.size w w' := by
  rcases h1 : showF key key i with ⟨n1, b1⟩
  rcases h2 : showF b key i with ⟨n2, b2⟩
  rcases h3 : showF a key i with ⟨n3, b3⟩
  rcases h4 : showF d key i with ⟨n4, b4⟩
  have H1 := Lib.hid h1
  have H2 := Lib.hid h2
  have H3 := Lib.hid h3
  have H4 := Lib.hid h4
  clear h1 h2 h3 h4
  go_enter Try.func3, Try.ntmps3
  go_wp2_with (first | (go_at_call 10; with_reducible refine (hide_at n key hk i _ _ HH.out _).mono ?_; rintro e w0 ⟨rfl, hw0⟩; replace hw0 := hw0.symm; subst hw0) | (go_at_call 11; with_reducible refine (refHide_at n key hk i _ _ HH.out _).mono ?_; rintro e w0 ⟨rfl, hw0⟩; replace hw0 := hw0.symm; subst hw0))
  go_loopw [11] (fun j wr => ∃ k : Nat, k ≤ 4 ∧ j = .int .i64 k ∧ Below w.heap.size w wr) (fun j _ => 4 - (intOf j).toNat)
  case atStart => exact ⟨0, by omega, rfl, Below.refl _ _⟩
  case round =>
    obtain ⟨k, hk', rfl, hw⟩ := hrel
    have hz := hw.size
    by_cases hlt : k < 4
    · obtain rfl | rfl | rfl | rfl : k = 0 ∨ k = 1 ∨ k = 2 ∨ k = 3 := by omega
      all_goals
        go_wp2_with (first | (go_at_call 12; with_reducible refine (show_at key key hk hk i _ _ H1.out _).mono ?_; rintro e w0 ⟨rfl, hw0⟩; replace hw0 := hw0.symm; subst hw0) | (go_at_call 12; with_reducible refine (show_at b key hb hk i _ _ H2.out _).mono ?_; rintro e w0 ⟨rfl, hw0⟩; replace hw0 := hw0.symm; subst hw0) | (go_at_call 12; with_reducible refine (show_at a key ha hk i _ _ H3.out _).mono ?_; rintro e w0 ⟨rfl, hw0⟩; replace hw0 := hw0.symm; subst hw0) | (go_at_call 12; with_reducible refine (show_at d key hd hk i _ _ H4.out _).mono ?_; rintro e w0 ⟨rfl, hw0⟩; replace hw0 := hw0.symm; subst hw0) | (go_at_call 13; with_reducible refine (refShow_at key key hk hk i _ _ H1.out _).mono ?_; rintro e w0 ⟨rfl, hw0⟩; replace hw0 := hw0.symm; subst hw0) | (go_at_call 13; with_reducible refine (refShow_at b key hb hk i _ _ H2.out _).mono ?_; rintro e w0 ⟨rfl, hw0⟩; replace hw0 := hw0.symm; subst hw0) | (go_at_call 13; with_reducible refine (refShow_at a key ha hk i _ _ H3.out _).mono ?_; rintro e w0 ⟨rfl, hw0⟩; replace hw0 := hw0.symm; subst hw0) | (go_at_call 13; with_reducible refine (refShow_at d key hd hk i _ _ H4.out _).mono ?_; rintro e w0 ⟨rfl, hw0⟩; replace hw0 := hw0.symm; subst hw0))
        go_roundw
        case rel => first | exact ⟨1, by omega, rfl, by (repeat' (first | (with_reducible exact Below.refl _ _) | (with_reducible assumption) | (with_reducible refine Below.alloc ?_ ?_ _) | (with_reducible refine below_drewN ?_ _) | (with_reducible refine Below.drew ?_) | (with_reducible refine Below.setCell ?_ ?_ _) | (with_reducible refine below_two ?_ (by with_reducible assumption)) | go_size))⟩ | exact ⟨2, by omega, rfl, by (repeat' (first | (with_reducible exact Below.refl _ _) | (with_reducible assumption) | (with_reducible refine Below.alloc ?_ ?_ _) | (with_reducible refine below_drewN ?_ _) | (with_reducible refine Below.drew ?_) | (with_reducible refine Below.setCell ?_ ?_ _) | (with_reducible refine below_two ?_ (by with_reducible assumption)) | go_size))⟩ | exact ⟨3, by omega, rfl, by (repeat' (first | (with_reducible exact Below.refl _ _) | (with_reducible assumption) | (with_reducible refine Below.alloc ?_ ?_ _) | (with_reducible refine below_drewN ?_ _) | (with_reducible refine Below.drew ?_) | (with_reducible refine Below.setCell ?_ ?_ _) | (with_reducible refine below_two ?_ (by with_reducible assumption)) | go_size))⟩ | exact ⟨4, by omega, rfl, by (repeat' (first | (with_reducible exact Below.refl _ _) | (with_reducible assumption) | (with_reducible refine Below.alloc ?_ ?_ _) | (with_reducible refine below_drewN ?_ _) | (with_reducible refine Below.drew ?_) | (with_reducible refine Below.setCell ?_ ?_ _) | (with_reducible refine below_two ?_ (by with_reducible assumption)) | go_size))⟩
        case measure => simp [intOf]
    · go_wp2_with (first | (go_at_call 14; with_reducible refine (works_any _).mono ?_; rintro e w3 ⟨rfl, hb3⟩))
      go_ret
      exact ⟨rfl, by (repeat' (first | (with_reducible exact Below.refl _ _) | (with_reducible assumption) | (with_reducible refine Below.alloc ?_ ?_ _) | (with_reducible refine below_drewN ?_ _) | (with_reducible refine Below.drew ?_) | (with_reducible refine Below.setCell ?_ ?_ _) | (with_reducible refine below_two ?_ (by with_reducible assumption)) | go_size))⟩

theorem linkHides_any (n i : Int) (key : Nat) (hk : key < 18446744073709551616) (w : World) : Calls Try.prog 3 #[.int .i64 n, .int .u64 key, .int .i64 i] w fun e w' =>
    e = .returned (.bool true) ∧ Below w.heap.size w w' := by
  have hbd := hide_bd n key i
  rcases hh : hideF n key i with ⟨v, e⟩
  rw [hh] at hbd
  obtain ⟨a, rfl⟩ := Int.eq_ofNat_of_zero_le (show 0 ≤ v from hbd.1)
  have ha : a < 18446744073709551616 := by
    have := hbd.2
    simp only [] at this
    omega
  obtain ⟨b, hb⟩ : ∃ b : Nat, IntKind.u64.wrap n = (b : Int) := ⟨(IntKind.u64.wrap n).toNat, by rw [IntKind.wrap_u64]; omega⟩
  have hb' : b < 18446744073709551616 := by rw [IntKind.wrap_u64] at hb; omega
  exact hides_at n i e key a b (a ^^^ 16) hk ha hb' (xor_lt ha (by decide)) (Lib.hid hh) hb (bits_xor_u64_nat a 16 ha (by decide)) w

theorem freshF_len (n : Int) (key : Nat) : (freshF n key).1.length ≤ 16 := by
  unfold freshF
  split
  · simp [freshL]; omega
  · simp

theorem linkFresh_any (n : Int) (key : Nat) (hk : key < 18446744073709551616) (w : World) : Calls Try.prog 5 #[.int .i64 n, .int .u64 key] w fun e w' =>
    e = .returned (.bool true) ∧ Below w.heap.size w w' := by
  have hl := freshF_len n key
  rcases hf : freshF n key with ⟨xs, e⟩
  rw [hf] at hl
  obtain ⟨m, hm⟩ : ∃ m, xs.length = m := ⟨_, rfl⟩
  replace hl : m ≤ 16 := hm ▸ hl
  have HF := Lib.hid hf
  have HM := Lib.hid hm
  clear hf hm
  go_enter Try.func5, Try.ntmps5
  go_wp2_with (first | (go_at_call 19; with_reducible refine (fresh_c n key key rfl hk xs m e HM.out HF.out _).mono ?_; rintro e w1 ⟨v1, rfl, ho1, hb1⟩; obtain ⟨A1, c1, rfl, hr1⟩ := Row.slice ho1; have z1 := hb1.size) | (go_at_call 20; with_reducible refine (refFresh_c n key key rfl hk xs m e HM.out HF.out _).mono ?_; rintro e w2 ⟨v2, rfl, ho2, hb2⟩; obtain ⟨A2, c2, rfl, hr2⟩ := Row.slice ho2; have hr1 := hr1.below hb2; have z2 := hb2.size) | (go_at_call 18; with_reducible refine (eqWs xs xs m m true HM.out HM.out (by omega) (by omega) (decide_eq_true rfl) _ _ _ _ _ hr1 hr2).mono ?_; rintro e w3 ⟨rfl, hb3⟩; have z3 := hb3.size) | (go_at_call 14; with_reducible refine (works_any _).mono ?_; rintro e w4 ⟨rfl, hb4⟩; have z4 := hb4.size))
  go_ret
  exact ⟨rfl, by (repeat' (first | (with_reducible exact Below.refl _ _) | (with_reducible assumption) | (with_reducible refine Below.alloc ?_ ?_ _) | (with_reducible refine below_drewN ?_ _) | (with_reducible refine Below.drew ?_) | (with_reducible refine Below.setCell ?_ ?_ _) | (with_reducible refine below_two ?_ (by with_reducible assumption)) | go_size))⟩

theorem bring_n (i n : Int) (r : Int) (h : i % n = r) (hn : 1 ≤ n) (hn' : n ≤ 4611686018427387904) (w : World) : Calls Try.prog 21 #[.int .i64 i, .int .i64 n] w fun e w' =>
    e = .returned (.int .i64 r) ∧ w' = w := h ▸ bring_any i n hn hn' w

theorem back_at (n i m j : Int) (key a : Nat) (hk : key < 18446744073709551616) (ha : a < 18446744073709551616) (hn : Hid (n % 17 = m + 1)) (hi : Hid (i % 16 = j)) (hm : -1 ≤ m ∧ m < 16) (HH : Hid (hideF m key j = ((a : Int), 0))) (HS : Hid (showF a key j = (m, true))) (w : World) :
    Calls Try.prog 6 #[.int .i64 n, .int .u64 key, .int .i64 i] w fun e w' => e = .returned (.bool true) ∧ Below w.heap.size w w' := by
  have hs : m + 1 - 1 = m := by omega
  go_enter Try.func6, Try.ntmps6
  go_wp2_with (first | (go_at_call 21; with_reducible refine (bring_n n 17 (m + 1) hn.out (by omega) (by omega) _).mono ?_; rintro e w0 ⟨rfl, hw0⟩; replace hw0 := hw0.symm; subst hw0) | (go_at_call 21; with_reducible refine (bring_n i 16 j hi.out (by omega) (by omega) _).mono ?_; rintro e w0 ⟨rfl, hw0⟩; replace hw0 := hw0.symm; subst hw0) | (go_at_call 10; with_reducible refine (hide_at m key hk j _ _ HH.out _).mono ?_; rintro e w0 ⟨rfl, hw0⟩; replace hw0 := hw0.symm; subst hw0) | (go_at_call 12; with_reducible refine (show_at a key ha hk j _ _ HS.out _).mono ?_; rintro e w0 ⟨rfl, hw0⟩; replace hw0 := hw0.symm; subst hw0) | (go_at_call 14; with_reducible refine (works_any _).mono ?_; rintro e w4 ⟨rfl, hb4⟩))
  go_ret
  exact ⟨rfl, by (repeat' (first | (with_reducible exact Below.refl _ _) | (with_reducible assumption) | (with_reducible refine Below.alloc ?_ ?_ _) | (with_reducible refine below_drewN ?_ _) | (with_reducible refine Below.drew ?_) | (with_reducible refine Below.setCell ?_ ?_ _) | (with_reducible refine below_two ?_ (by with_reducible assumption)) | go_size))⟩
theorem linkBack_any (n i : Int) (key : Nat) (hk : key < 18446744073709551616) (w : World) : Calls Try.prog 6 #[.int .i64 n, .int .u64 key, .int .i64 i] w fun e w' =>
    e = .returned (.bool true) ∧ Below w.heap.size w w' := by
  obtain ⟨m, hm⟩ : ∃ m, n % 17 = m + 1 := ⟨n % 17 - 1, by omega⟩
  obtain ⟨j, hj⟩ : ∃ j, i % 16 = j := ⟨_, rfl⟩
  have h1 : okN m = true := (okN_iff m).2 (by omega)
  have h2 : okA j = true := (okA_iff j).2 (by omega)
  have hs := show_hide (key := key) h1 h2
  have hbd := hide_bd m key j
  have he : (hideF m key j).2 = 0 := by unfold hideF; rw [if_pos ⟨h1, h2⟩]
  rcases hh : hideF m key j with ⟨v, e⟩
  rw [hh] at hbd hs he
  obtain ⟨a, rfl⟩ := Int.eq_ofNat_of_zero_le (show 0 ≤ v from hbd.1)
  have ha : a < 18446744073709551616 := by
    have := hbd.2
    simp only [] at this
    omega
  simp only [] at he
  subst he
  exact back_at n i m j key a hk ha (Lib.hid hm) (Lib.hid hj) (by omega) (Lib.hid hh) (Lib.hid (by simpa using hs)) w

end Go.Proofs.Ytklhlhfplkmpmaa
