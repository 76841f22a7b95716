/-
  The walks of Limit, Up, Down, Used, Most.
-/
import Derived.Test.YtnbeofbkfopehaaWalkA
import Derived.RegionTactic
import Derived.WalkKit
import Derived.Deep.DeepMust
import Derived.WalkSpells
import Derived.WalkLawsBesides
import Derived.Handy
import Derived.Lib.Hide
import Derived.Deep.QuietTactic
import Derived.BigQuiet
namespace Go.Proofs.Ytnbeofbkfopehaa
open Go.RowKit

theorem Row.of_one {w : World} {g : Nat} {t : TypeId} {u : Value} (h : Blk w g t #[u]) : Row w (some ⟨g, 0, none⟩) [u] := fun _ =>
  ⟨g, 0, rfl, h.lt, fun j x hx => by rw [Nat.zero_add, h.cell, ← Array.getElem?_toList]; exact hx⟩
theorem ask_one {x n : Int} (h : askF [x] n = 0) : 1 ≤ x ∧ x ≤ 16 ∧ 0 ≤ n ∧ n ≤ 9007199254740991 := by
  obtain ⟨h1, h2⟩ := askF_zero.1 h
  have h3 := allG_at h1 (k := 0) (by simp)
  obtain ⟨-, -, -, h4, h5⟩ := fitB_iff.1 h2
  exact ⟨h3.1, h3.2, h4, h5⟩
/-- What is always so of counts and limits. -/
def Fine (U M : Nat → Int) : Prop := ∀ k, k < 16 → 0 ≤ U k ∧ U k ≤ 9007199254740991 ∧ 0 ≤ M k ∧ M k ≤ 9007199254740991

theorem limit_err (w : World) (b : Nat) (U M : Nat → Int) (hC : ChAt w b U M) (x n e : Int) (he : Hid (askF [x] n = e)) (h0 : e ≠ 0) :
    Calls Try.prog 10 #[.pointer (some ⟨b, 0, none⟩), .int .i64 x, .int .i64 n] w fun r w' => r = .returned (.int .i64 e) ∧ Below w.heap.size w w' := by
  have HA := Lib.hid (Row.of_one (Blk.new w 3 #[.int .i64 x]))
  have HC := Lib.hid (hC.alloc (.cells #[.int .i64 x] 3))
  have h1 : Hid (List.length [x] = 1) := Lib.hid rfl
  have hne : (e != 0) = true := bne_iff_ne.2 h0
  clear hC h0
  go_enter Try.func10, Try.ntmps10
  go_wp2_with (first | (go_at_call 23; (with_reducible refine (asked_any _ b U M HC.out [x] 1 h1 (by omega) n _ 1 HA.out e he.out).mono ?_); rintro e w1 ⟨rfl, hb1⟩; have HC1 := HC.out.below hb1; have z1 := hb1.size; rw [World.size_alloc] at z1))
  go_ret
  exact ⟨rfl, by (repeat' (first | (with_reducible exact Below.refl _ _) | (with_reducible assumption) | (with_reducible refine Below.alloc ?_ ?_ _) | (with_reducible refine below_drewN ?_ _) | (with_reducible refine Below.drew ?_) | (with_reducible refine Below.setCell ?_ ?_ _) | (with_reducible refine below_two ?_ (by with_reducible assumption)) | go_size))⟩

theorem up_err (w : World) (b : Nat) (U M : Nat → Int) (hC : ChAt w b U M) (x n e : Int) (he : Hid (askF [x] n = e)) (h0 : e ≠ 0) :
    Calls Try.prog 21 #[.pointer (some ⟨b, 0, none⟩), .int .i64 x, .int .i64 n] w fun r w' => r = .returned (.int .i64 e) ∧ Below w.heap.size w w' := by
  have HA := Lib.hid (Row.of_one (Blk.new w 3 #[.int .i64 x]))
  have HC := Lib.hid (hC.alloc (.cells #[.int .i64 x] 3))
  have h1 : Hid (List.length [x] = 1) := Lib.hid rfl
  have hne : (e != 0) = true := bne_iff_ne.2 h0
  clear hC h0
  go_enter Try.func21, Try.ntmps21
  go_wp2_with (first | (go_at_call 23; (with_reducible refine (asked_any _ b U M HC.out [x] 1 h1 (by omega) n _ 1 HA.out e he.out).mono ?_); rintro e w1 ⟨rfl, hb1⟩; have HC1 := HC.out.below hb1; have z1 := hb1.size; rw [World.size_alloc] at z1))
  go_ret
  exact ⟨rfl, by (repeat' (first | (with_reducible exact Below.refl _ _) | (with_reducible assumption) | (with_reducible refine Below.alloc ?_ ?_ _) | (with_reducible refine below_drewN ?_ _) | (with_reducible refine Below.drew ?_) | (with_reducible refine Below.setCell ?_ ?_ _) | (with_reducible refine below_two ?_ (by with_reducible assumption)) | go_size))⟩

theorem down_err (w : World) (b : Nat) (U M : Nat → Int) (hC : ChAt w b U M) (x n e : Int) (he : Hid (askF [x] n = e)) (h0 : e ≠ 0) :
    Calls Try.prog 22 #[.pointer (some ⟨b, 0, none⟩), .int .i64 x, .int .i64 n] w fun r w' => r = .returned (.int .i64 e) ∧ Below w.heap.size w w' := by
  have HA := Lib.hid (Row.of_one (Blk.new w 3 #[.int .i64 x]))
  have HC := Lib.hid (hC.alloc (.cells #[.int .i64 x] 3))
  have h1 : Hid (List.length [x] = 1) := Lib.hid rfl
  have hne : (e != 0) = true := bne_iff_ne.2 h0
  clear hC h0
  go_enter Try.func22, Try.ntmps22
  go_wp2_with (first | (go_at_call 23; (with_reducible refine (asked_any _ b U M HC.out [x] 1 h1 (by omega) n _ 1 HA.out e he.out).mono ?_); rintro e w1 ⟨rfl, hb1⟩; have HC1 := HC.out.below hb1; have z1 := hb1.size; rw [World.size_alloc] at z1))
  go_ret
  exact ⟨rfl, by (repeat' (first | (with_reducible exact Below.refl _ _) | (with_reducible assumption) | (with_reducible refine Below.alloc ?_ ?_ _) | (with_reducible refine below_drewN ?_ _) | (with_reducible refine Below.drew ?_) | (with_reducible refine Below.setCell ?_ ?_ _) | (with_reducible refine below_two ?_ (by with_reducible assumption)) | go_size))⟩

theorem limit_ok (w : World) (b : Nat) (U M : Nat → Int) (hC : ChAt w b U M) (x n : Int) (k : Nat) (hk : k < 16) (hx : x - 1 = (k : Int)) (he : Hid (askF [x] n = 0)) :
    Calls Try.prog 10 #[.pointer (some ⟨b, 0, none⟩), .int .i64 x, .int .i64 n] w fun r w' => r = .returned (.int .i64 0) ∧ ChAt w' b U (upd M k n) ∧ One b w w' := by
  have HA := Lib.hid (Row.of_one (Blk.new w 3 #[.int .i64 x]))
  have HC := Lib.hid (hC.alloc (.cells #[.int .i64 x] 3))
  have h1 : Hid (List.length [x] = 1) := Lib.hid rfl
  have bl := hC.lt
  obtain ⟨u, hu⟩ : ∃ u, Hid (U k = u) := ⟨_, Lib.hid rfl⟩
  obtain ⟨m, hm⟩ : ∃ m, Hid (M k = m) := ⟨_, Lib.hid rfl⟩
  have k0 : (0 : Int) ≤ (k : Int) := by omega
  have k1 : (k : Int) < 16 := by omega
  clear hC
  go_enter Try.func10, Try.ntmps10
  go_wp2_with (first | (go_at_call 23; (with_reducible refine (asked_any _ b U M HC.out [x] 1 h1 (by omega) n _ 1 HA.out 0 he.out).mono ?_); rintro e w1 ⟨rfl, hb1⟩; have HC1 := HC.out.below hb1; have z1 := hb1.size; rw [World.size_alloc] at z1; have c1 := HC1.used hk; have c2 := HC1.most hk; have f1 := HC1.frozen (1 + k); have f2 := HC1.frozen (17 + k); rw [hu.out] at c1; rw [hm.out] at c2))
  go_ret
  exact ⟨rfl, HC1.setMost hk n, (One.of_below b (below_box hb1)).set _ _⟩

set_option maxHeartbeats 1000000 in
theorem up_ok (w : World) (b : Nat) (U M : Nat → Int) (hC : ChAt w b U M) (hF : Fine U M) (x n : Int) (k : Nat) (hk : k < 16) (hx : x - 1 = (k : Int)) (he : Hid (askF [x] n = 0)) (hq : n ≤ M k - U k) :
    Calls Try.prog 21 #[.pointer (some ⟨b, 0, none⟩), .int .i64 x, .int .i64 n] w fun r w' => r = .returned (.int .i64 0) ∧ ChAt w' b (upd U k (U k + n)) M ∧ One b w w' := by
  have HA := Lib.hid (Row.of_one (Blk.new w 3 #[.int .i64 x]))
  have HC := Lib.hid (hC.alloc (.cells #[.int .i64 x] 3))
  have h1 : Hid (List.length [x] = 1) := Lib.hid rfl
  have bl := hC.lt
  obtain ⟨q1, q2, q3, q4⟩ := ask_one he.out
  obtain ⟨u0, u1, m0, m1⟩ := hF k hk
  obtain ⟨u, hu⟩ : ∃ u, Hid (U k = u) := ⟨_, Lib.hid rfl⟩
  obtain ⟨m, hm⟩ : ∃ m, Hid (M k = m) := ⟨_, Lib.hid rfl⟩
  rw [hu.out] at u0 u1 hq
  rw [hm.out] at m0 m1 hq
  have k0 : (0 : Int) ≤ (k : Int) := by omega
  have k1 : (k : Int) < 16 := by omega
  have w1k : IntKind.i64.wrap ((k : Nat) : Int) = (k : Int) := IntWalk.i64_in _ (by omega)
  have w2k : IntKind.i64.wrap (m - u) = m - u := IntWalk.i64_in _ (by omega)
  have w3k : IntKind.i64.wrap (u + n) = u + n := IntWalk.i64_in _ (by omega)
  have t1 : decide (m - u < n) = false := decide_eq_false (by omega)
  clear hC
  go_enter Try.func21, Try.ntmps21
  go_wp2_with (first | (go_at_call 23; (with_reducible refine (asked_any _ b U M HC.out [x] 1 h1 (by omega) n _ 1 HA.out 0 he.out).mono ?_); rintro e w1 ⟨rfl, hb1⟩; have HC1 := HC.out.below hb1; have z1 := hb1.size; rw [World.size_alloc] at z1; have c1 := HC1.used hk; have c2 := HC1.most hk; have f1 := HC1.frozen (1 + k); have f2 := HC1.frozen (17 + k); rw [hu.out] at c1; rw [hm.out] at c2))
  go_quiet (fail)
  go_wp2
  go_region
  all_goals go_wp2
  go_ret
  exact ⟨rfl, by rw [hu.out]; exact ((HC1.drewN _).setUsed hk _), ((One.of_below b (below_box hb1)).drewN _).set _ _⟩

set_option maxHeartbeats 1000000 in
theorem up_full (w : World) (b : Nat) (U M : Nat → Int) (hC : ChAt w b U M) (hF : Fine U M) (x n : Int) (k : Nat) (hk : k < 16) (hx : x - 1 = (k : Int)) (he : Hid (askF [x] n = 0)) (hq : M k - U k < n) :
    Calls Try.prog 21 #[.pointer (some ⟨b, 0, none⟩), .int .i64 x, .int .i64 n] w fun r w' => r = .returned (.int .i64 120) ∧ Below w.heap.size w w' := by
  have HA := Lib.hid (Row.of_one (Blk.new w 3 #[.int .i64 x]))
  have HC := Lib.hid (hC.alloc (.cells #[.int .i64 x] 3))
  have h1 : Hid (List.length [x] = 1) := Lib.hid rfl
  have bl := hC.lt
  obtain ⟨q1, q2, q3, q4⟩ := ask_one he.out
  obtain ⟨u0, u1, m0, m1⟩ := hF k hk
  obtain ⟨u, hu⟩ : ∃ u, Hid (U k = u) := ⟨_, Lib.hid rfl⟩
  obtain ⟨m, hm⟩ : ∃ m, Hid (M k = m) := ⟨_, Lib.hid rfl⟩
  rw [hu.out] at u0 u1 hq
  rw [hm.out] at m0 m1 hq
  have k0 : (0 : Int) ≤ (k : Int) := by omega
  have k1 : (k : Int) < 16 := by omega
  have w1k : IntKind.i64.wrap ((k : Nat) : Int) = (k : Int) := IntWalk.i64_in _ (by omega)
  have w2k : IntKind.i64.wrap (m - u) = m - u := IntWalk.i64_in _ (by omega)
  have w3k : IntKind.i64.wrap (u + n) = u + n := IntWalk.i64_in _ (by omega)
  have t1 : decide (m - u < n) = true := decide_eq_true (by omega)
  clear hC
  go_enter Try.func21, Try.ntmps21
  go_wp2_with (first | (go_at_call 23; (with_reducible refine (asked_any _ b U M HC.out [x] 1 h1 (by omega) n _ 1 HA.out 0 he.out).mono ?_); rintro e w1 ⟨rfl, hb1⟩; have HC1 := HC.out.below hb1; have z1 := hb1.size; rw [World.size_alloc] at z1; have c1 := HC1.used hk; have c2 := HC1.most hk; have f1 := HC1.frozen (1 + k); have f2 := HC1.frozen (17 + k); rw [hu.out] at c1; rw [hm.out] at c2))
  go_quiet (fail)
  go_wp2
  go_ret
  exact ⟨rfl, by (repeat' (first | (with_reducible exact Below.refl _ _) | (with_reducible assumption) | (with_reducible refine Below.alloc ?_ ?_ _) | (with_reducible refine below_drewN ?_ _) | (with_reducible refine Below.drew ?_) | (with_reducible refine Below.setCell ?_ ?_ _) | (with_reducible refine below_two ?_ (by with_reducible assumption)) | go_size))⟩

set_option maxHeartbeats 1000000 in
theorem down_ok (w : World) (b : Nat) (U M : Nat → Int) (hC : ChAt w b U M) (hF : Fine U M) (x n : Int) (k : Nat) (hk : k < 16) (hx : x - 1 = (k : Int)) (he : Hid (askF [x] n = 0)) (hq : n ≤ U k) :
    Calls Try.prog 22 #[.pointer (some ⟨b, 0, none⟩), .int .i64 x, .int .i64 n] w fun r w' => r = .returned (.int .i64 0) ∧ ChAt w' b (upd U k (U k - n)) M ∧ One b w w' := by
  have HA := Lib.hid (Row.of_one (Blk.new w 3 #[.int .i64 x]))
  have HC := Lib.hid (hC.alloc (.cells #[.int .i64 x] 3))
  have h1 : Hid (List.length [x] = 1) := Lib.hid rfl
  have bl := hC.lt
  obtain ⟨q1, q2, q3, q4⟩ := ask_one he.out
  obtain ⟨u0, u1, m0, m1⟩ := hF k hk
  obtain ⟨u, hu⟩ : ∃ u, Hid (U k = u) := ⟨_, Lib.hid rfl⟩
  obtain ⟨m, hm⟩ : ∃ m, Hid (M k = m) := ⟨_, Lib.hid rfl⟩
  rw [hu.out] at u0 u1 hq
  rw [hm.out] at m0 m1
  have k0 : (0 : Int) ≤ (k : Int) := by omega
  have k1 : (k : Int) < 16 := by omega
  have w1k : IntKind.i64.wrap ((k : Nat) : Int) = (k : Int) := IntWalk.i64_in _ (by omega)
  have w3k : IntKind.i64.wrap (u - n) = u - n := IntWalk.i64_in _ (by omega)
  clear hC
  go_enter Try.func22, Try.ntmps22
  go_wp2_with (first | (go_at_call 23; (with_reducible refine (asked_any _ b U M HC.out [x] 1 h1 (by omega) n _ 1 HA.out 0 he.out).mono ?_); rintro e w1 ⟨rfl, hb1⟩; have HC1 := HC.out.below hb1; have z1 := hb1.size; rw [World.size_alloc] at z1; have c1 := HC1.used hk; have c2 := HC1.most hk; have f1 := HC1.frozen (1 + k); have f2 := HC1.frozen (17 + k); rw [hu.out] at c1; rw [hm.out] at c2))
  go_region
  all_goals go_wp2
  go_ret
  exact ⟨rfl, by rw [hu.out]; exact (HC1.setUsed hk _).drew, ((One.of_below b (below_box hb1)).set _ _).drew⟩

set_option maxHeartbeats 1000000 in
theorem down_no (w : World) (b : Nat) (U M : Nat → Int) (hC : ChAt w b U M) (hF : Fine U M) (x n : Int) (k : Nat) (hk : k < 16) (hx : x - 1 = (k : Int)) (he : Hid (askF [x] n = 0)) (hq : U k < n) :
    Calls Try.prog 22 #[.pointer (some ⟨b, 0, none⟩), .int .i64 x, .int .i64 n] w fun r w' => r = .returned (.int .i64 2) ∧ Below w.heap.size w w' := by
  have HA := Lib.hid (Row.of_one (Blk.new w 3 #[.int .i64 x]))
  have HC := Lib.hid (hC.alloc (.cells #[.int .i64 x] 3))
  have h1 : Hid (List.length [x] = 1) := Lib.hid rfl
  have bl := hC.lt
  obtain ⟨q1, q2, q3, q4⟩ := ask_one he.out
  obtain ⟨u0, u1, m0, m1⟩ := hF k hk
  obtain ⟨u, hu⟩ : ∃ u, Hid (U k = u) := ⟨_, Lib.hid rfl⟩
  obtain ⟨m, hm⟩ : ∃ m, Hid (M k = m) := ⟨_, Lib.hid rfl⟩
  rw [hu.out] at u0 u1 hq
  rw [hm.out] at m0 m1
  have k0 : (0 : Int) ≤ (k : Int) := by omega
  have k1 : (k : Int) < 16 := by omega
  have w1k : IntKind.i64.wrap ((k : Nat) : Int) = (k : Int) := IntWalk.i64_in _ (by omega)
  have w3k : IntKind.i64.wrap (u - n) = u - n := IntWalk.i64_in _ (by omega)
  clear hC
  go_enter Try.func22, Try.ntmps22
  go_wp2_with (first | (go_at_call 23; (with_reducible refine (asked_any _ b U M HC.out [x] 1 h1 (by omega) n _ 1 HA.out 0 he.out).mono ?_); rintro e w1 ⟨rfl, hb1⟩; have HC1 := HC.out.below hb1; have z1 := hb1.size; rw [World.size_alloc] at z1; have c1 := HC1.used hk; have c2 := HC1.most hk; have f1 := HC1.frozen (1 + k); have f2 := HC1.frozen (17 + k); rw [hu.out] at c1; rw [hm.out] at c2))
  skip
  go_ret
  exact ⟨rfl, by (repeat' (first | (with_reducible exact Below.refl _ _) | (with_reducible assumption) | (with_reducible refine Below.alloc ?_ ?_ _) | (with_reducible refine below_drewN ?_ _) | (with_reducible refine Below.drew ?_) | (with_reducible refine Below.setCell ?_ ?_ _) | (with_reducible refine below_two ?_ (by with_reducible assumption)) | go_size))⟩

theorem used_ok (w : World) (b : Nat) (U M : Nat → Int) (hC : ChAt w b U M) (x : Int) (k : Nat) (hk : k < 16) (hx : x - 1 = (k : Int)) (v : Int) (hv : U k = v) :
    Calls Try.prog 14 #[.pointer (some ⟨b, 0, none⟩), .int .i64 x] w fun r w' => r = .returned (.int .i64 v) ∧ w' = w := by
  subst hv
  have c1 := hC.used hk
  obtain ⟨u, hu⟩ : ∃ u, U k = u := ⟨_, rfl⟩
  rw [hu] at c1 ⊢
  have HC := Lib.hid hC
  have q1 : 1 ≤ x := by omega
  have q2 : x ≤ 16 := by omega
  have k0 : (0 : Int) ≤ (k : Int) := by omega
  have k1 : (k : Int) < 16 := by omega
  clear hC hu
  go_enter Try.func14, Try.ntmps14
  go_wp2_with (first | (go_at_call 25; with_reducible refine (none_no _ b U M HC.out).mono ?_; rintro e w0 ⟨rfl, hw0⟩; replace hw0 := hw0.symm; subst hw0))
  go_ret
  exact ⟨rfl, rfl⟩
theorem used_out (w : World) (b : Nat) (U M : Nat → Int) (hC : ChAt w b U M) (x : Int) (hx : x < 1 ∨ 16 < x) :
    Calls Try.prog 14 #[.pointer (some ⟨b, 0, none⟩), .int .i64 x] w fun r w' => r = .returned (.int .i64 0) ∧ w' = w := by
  have HC := Lib.hid hC
  clear hC
  rcases hx with hx | hx
  all_goals
    go_enter Try.func14, Try.ntmps14
    go_wp2_with (first | (go_at_call 25; with_reducible refine (none_no _ b U M HC.out).mono ?_; rintro e w0 ⟨rfl, hw0⟩; replace hw0 := hw0.symm; subst hw0))
    go_ret
    exact ⟨rfl, rfl⟩

theorem most_ok (w : World) (b : Nat) (U M : Nat → Int) (hC : ChAt w b U M) (x : Int) (k : Nat) (hk : k < 16) (hx : x - 1 = (k : Int)) (v : Int) (hv : M k = v) :
    Calls Try.prog 19 #[.pointer (some ⟨b, 0, none⟩), .int .i64 x] w fun r w' => r = .returned (.int .i64 v) ∧ w' = w := by
  subst hv
  have c1 := hC.most hk
  obtain ⟨u, hu⟩ : ∃ u, M k = u := ⟨_, rfl⟩
  rw [hu] at c1 ⊢
  have HC := Lib.hid hC
  have q1 : 1 ≤ x := by omega
  have q2 : x ≤ 16 := by omega
  have k0 : (0 : Int) ≤ (k : Int) := by omega
  have k1 : (k : Int) < 16 := by omega
  clear hC hu
  go_enter Try.func19, Try.ntmps19
  go_wp2_with (first | (go_at_call 25; with_reducible refine (none_no _ b U M HC.out).mono ?_; rintro e w0 ⟨rfl, hw0⟩; replace hw0 := hw0.symm; subst hw0))
  go_ret
  exact ⟨rfl, rfl⟩
theorem most_out (w : World) (b : Nat) (U M : Nat → Int) (hC : ChAt w b U M) (x : Int) (hx : x < 1 ∨ 16 < x) :
    Calls Try.prog 19 #[.pointer (some ⟨b, 0, none⟩), .int .i64 x] w fun r w' => r = .returned (.int .i64 0) ∧ w' = w := by
  have HC := Lib.hid hC
  clear hC
  rcases hx with hx | hx
  all_goals
    go_enter Try.func19, Try.ntmps19
    go_wp2_with (first | (go_at_call 25; with_reducible refine (none_no _ b U M HC.out).mono ?_; rintro e w0 ⟨rfl, hw0⟩; replace hw0 := hw0.symm; subst hw0))
    go_ret
    exact ⟨rfl, rfl⟩

end Go.Proofs.Ytnbeofbkfopehaa
