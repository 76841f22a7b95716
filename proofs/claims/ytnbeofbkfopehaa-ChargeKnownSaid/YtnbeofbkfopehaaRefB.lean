/-
  The walks of the reference's Limit, Up, Down, Used, Limits, New.
-/
import Derived.Test.YtnbeofbkfopehaaRefA
import Derived.Test.YtnbeofbkfopehaaAll
import Derived.WalkKit
import Derived.Deep.DeepMust
import Derived.WalkSpells
import Derived.WalkLawsBesides
import Derived.Handy
import Derived.Lib.Hide
import Derived.Deep.QuietTactic
import Derived.BigQuiet
namespace Go.Proofs.Ytnbeofbkfopehaa
open Go.RowKit

theorem rlimit_err (w : World) (b : Nat) (U M : Nat → Int) (hC : ReAt w b U M) (x n e : Int) (he : Hid (askF [x] n = e)) (h0 : e ≠ 0) :
    Calls Try.prog 27 #[.pointer (some ⟨b, 0, none⟩), .int .i64 x, .int .i64 n] w fun r w' => r = .returned (.int .i64 e) ∧ Below w.heap.size w w' := by
  have HA := Lib.hid (Row.of_one (Blk.new w 3 #[.int .i64 x]))
  have HC := Lib.hid (hC.alloc (.cells #[.int .i64 x] 3))
  have h1 : Hid (List.length [x] = 1) := Lib.hid rfl
  have hne : (e != 0) = true := bne_iff_ne.2 h0
  have heq : (e == 0) = false := beq_eq_false_iff_ne.2 h0
  clear hC h0
  go_enter Try.func27, Try.ntmps27
  go_wp2_with (first | (go_at_call 34; (with_reducible refine (rasked_any _ [x] 1 h1 (by omega) n _ 1 HA.out e he.out).mono ?_); rintro r w1 ⟨rfl, hb1⟩; have HC1 := HC.out.below hb1; have z1 := hb1.size; rw [World.size_alloc] at z1))
  go_ret
  exact ⟨rfl, by (repeat' (first | (with_reducible exact Below.refl _ _) | (with_reducible assumption) | (with_reducible refine Below.alloc ?_ ?_ _) | (with_reducible refine below_drewN ?_ _) | (with_reducible refine Below.drew ?_) | (with_reducible refine Below.setCell ?_ ?_ _) | (with_reducible refine below_two ?_ (by with_reducible assumption)) | go_size))⟩

theorem rup_err (w : World) (b : Nat) (U M : Nat → Int) (hC : ReAt w b U M) (x n e : Int) (he : Hid (askF [x] n = e)) (h0 : e ≠ 0) :
    Calls Try.prog 28 #[.pointer (some ⟨b, 0, none⟩), .int .i64 x, .int .i64 n] w fun r w' => r = .returned (.int .i64 e) ∧ Below w.heap.size w w' := by
  have HA := Lib.hid (Row.of_one (Blk.new w 3 #[.int .i64 x]))
  have HC := Lib.hid (hC.alloc (.cells #[.int .i64 x] 3))
  have h1 : Hid (List.length [x] = 1) := Lib.hid rfl
  have hne : (e != 0) = true := bne_iff_ne.2 h0
  have heq : (e == 0) = false := beq_eq_false_iff_ne.2 h0
  clear hC h0
  go_enter Try.func28, Try.ntmps28
  go_wp2_with (first | (go_at_call 34; (with_reducible refine (rasked_any _ [x] 1 h1 (by omega) n _ 1 HA.out e he.out).mono ?_); rintro r w1 ⟨rfl, hb1⟩; have HC1 := HC.out.below hb1; have z1 := hb1.size; rw [World.size_alloc] at z1))
  go_ret
  exact ⟨rfl, by (repeat' (first | (with_reducible exact Below.refl _ _) | (with_reducible assumption) | (with_reducible refine Below.alloc ?_ ?_ _) | (with_reducible refine below_drewN ?_ _) | (with_reducible refine Below.drew ?_) | (with_reducible refine Below.setCell ?_ ?_ _) | (with_reducible refine below_two ?_ (by with_reducible assumption)) | go_size))⟩

theorem rdown_err (w : World) (b : Nat) (U M : Nat → Int) (hC : ReAt w b U M) (x n e : Int) (he : Hid (askF [x] n = e)) (h0 : e ≠ 0) :
    Calls Try.prog 29 #[.pointer (some ⟨b, 0, none⟩), .int .i64 x, .int .i64 n] w fun r w' => r = .returned (.int .i64 e) ∧ Below w.heap.size w w' := by
  have HA := Lib.hid (Row.of_one (Blk.new w 3 #[.int .i64 x]))
  have HC := Lib.hid (hC.alloc (.cells #[.int .i64 x] 3))
  have h1 : Hid (List.length [x] = 1) := Lib.hid rfl
  have hne : (e != 0) = true := bne_iff_ne.2 h0
  have heq : (e == 0) = false := beq_eq_false_iff_ne.2 h0
  clear hC h0
  go_enter Try.func29, Try.ntmps29
  go_wp2_with (first | (go_at_call 34; (with_reducible refine (rasked_any _ [x] 1 h1 (by omega) n _ 1 HA.out e he.out).mono ?_); rintro r w1 ⟨rfl, hb1⟩; have HC1 := HC.out.below hb1; have z1 := hb1.size; rw [World.size_alloc] at z1))
  go_ret
  exact ⟨rfl, by (repeat' (first | (with_reducible exact Below.refl _ _) | (with_reducible assumption) | (with_reducible refine Below.alloc ?_ ?_ _) | (with_reducible refine below_drewN ?_ _) | (with_reducible refine Below.drew ?_) | (with_reducible refine Below.setCell ?_ ?_ _) | (with_reducible refine below_two ?_ (by with_reducible assumption)) | go_size))⟩

set_option maxHeartbeats 1000000 in
theorem rlimit_ok (w : World) (b : Nat) (U M : Nat → Int) (hC : ReAt w b U M) (hF : Fine U M) (n : Int) (k : Nat) (hk : k < 16) (he : Hid (askF [(k : Int) + 1] n = 0)) :
    Calls Try.prog 27 #[.pointer (some ⟨b, 0, none⟩), .int .i64 ((k : Int) + 1), .int .i64 n] w fun r w' => r = .returned (.int .i64 0) ∧ ReAt w' b U (upd M k n) ∧ One b w w' := by
  have HA := Lib.hid (Row.of_one (Blk.new w 3 #[.int .i64 ((k : Int) + 1)]))
  have HC := Lib.hid (hC.alloc (.cells #[.int .i64 ((k : Int) + 1)] 3))
  have h1 : Hid (List.length [(k : Int) + 1] = 1) := Lib.hid rfl
  have bl := hC.lt
  obtain ⟨q1, q2, q3, q4⟩ := ask_one he.out
  obtain ⟨u0, u1, m0, m1⟩ := hF k hk
  obtain ⟨u, hu⟩ : ∃ u, Hid (U k = u) := ⟨_, Lib.hid rfl⟩
  obtain ⟨m, hm⟩ : ∃ m, Hid (M k = m) := ⟨_, Lib.hid rfl⟩
  rw [hu.out] at u0 u1
  rw [hm.out] at m0 m1
  have k0 : (0 : Int) ≤ (k : Int) + 1 := by omega
  have k1 : (k : Int) + 1 < 17 := by omega
  clear hC q1 q2
  go_enter Try.func27, Try.ntmps27
  go_wp2_with (first | (go_at_call 34; (with_reducible refine (rasked_any _ [(k : Int) + 1] 1 h1 (by omega) n _ 1 HA.out 0 he.out).mono ?_); rintro r w1 ⟨rfl, hb1⟩; have HC1 := HC.out.below hb1; have z1 := hb1.size; rw [World.size_alloc] at z1; have c1 := HC1.used hk; have c2 := HC1.most hk; have f1 := HC1.frozen (k + 1); have f2 := HC1.frozen (17 + (k + 1)); rw [hu.out] at c1; rw [hm.out] at c2))
  go_ret
  exact ⟨rfl, HC1.setMost hk n, (One.of_below b (below_box hb1)).set _ _⟩

set_option maxHeartbeats 1000000 in
theorem rup_ok (w : World) (b : Nat) (U M : Nat → Int) (hC : ReAt w b U M) (hF : Fine U M) (n : Int) (k : Nat) (hk : k < 16) (he : Hid (askF [(k : Int) + 1] n = 0)) (hq : U k + n ≤ M k) :
    Calls Try.prog 28 #[.pointer (some ⟨b, 0, none⟩), .int .i64 ((k : Int) + 1), .int .i64 n] w fun r w' => r = .returned (.int .i64 0) ∧ ReAt w' b (upd U k (U k + n)) M ∧ One b w w' := by
  have HA := Lib.hid (Row.of_one (Blk.new w 3 #[.int .i64 ((k : Int) + 1)]))
  have HC := Lib.hid (hC.alloc (.cells #[.int .i64 ((k : Int) + 1)] 3))
  have h1 : Hid (List.length [(k : Int) + 1] = 1) := Lib.hid rfl
  have bl := hC.lt
  obtain ⟨q1, q2, q3, q4⟩ := ask_one he.out
  obtain ⟨u0, u1, m0, m1⟩ := hF k hk
  obtain ⟨u, hu⟩ : ∃ u, Hid (U k = u) := ⟨_, Lib.hid rfl⟩
  obtain ⟨m, hm⟩ : ∃ m, Hid (M k = m) := ⟨_, Lib.hid rfl⟩
  rw [hu.out] at u0 u1
  rw [hm.out] at m0 m1
  rw [hu.out, hm.out] at hq
  have w3k : IntKind.i64.wrap (u + n) = u + n := IntWalk.i64_in _ (by omega)
  have t1 : decide (m < u + n) = false := decide_eq_false (by omega)
  have k0 : (0 : Int) ≤ (k : Int) + 1 := by omega
  have k1 : (k : Int) + 1 < 17 := by omega
  clear hC q1 q2
  go_enter Try.func28, Try.ntmps28
  go_wp2_with (first | (go_at_call 34; (with_reducible refine (rasked_any _ [(k : Int) + 1] 1 h1 (by omega) n _ 1 HA.out 0 he.out).mono ?_); rintro r w1 ⟨rfl, hb1⟩; have HC1 := HC.out.below hb1; have z1 := hb1.size; rw [World.size_alloc] at z1; have c1 := HC1.used hk; have c2 := HC1.most hk; have f1 := HC1.frozen (k + 1); have f2 := HC1.frozen (17 + (k + 1)); rw [hu.out] at c1; rw [hm.out] at c2))
  go_quiet (fail)
  go_wp2
  go_region
  all_goals go_wp2
  go_ret
  exact ⟨rfl, by rw [hu.out]; exact ((HC1.drewN _).setUsed hk _), ((One.of_below b (below_box hb1)).drewN _).set _ _⟩

set_option maxHeartbeats 1000000 in
theorem rup_full (w : World) (b : Nat) (U M : Nat → Int) (hC : ReAt w b U M) (hF : Fine U M) (n : Int) (k : Nat) (hk : k < 16) (he : Hid (askF [(k : Int) + 1] n = 0)) (hq : M k < U k + n) :
    Calls Try.prog 28 #[.pointer (some ⟨b, 0, none⟩), .int .i64 ((k : Int) + 1), .int .i64 n] w fun r w' => r = .returned (.int .i64 120) ∧ Below w.heap.size w w' := by
  have HA := Lib.hid (Row.of_one (Blk.new w 3 #[.int .i64 ((k : Int) + 1)]))
  have HC := Lib.hid (hC.alloc (.cells #[.int .i64 ((k : Int) + 1)] 3))
  have h1 : Hid (List.length [(k : Int) + 1] = 1) := Lib.hid rfl
  have bl := hC.lt
  obtain ⟨q1, q2, q3, q4⟩ := ask_one he.out
  obtain ⟨u0, u1, m0, m1⟩ := hF k hk
  obtain ⟨u, hu⟩ : ∃ u, Hid (U k = u) := ⟨_, Lib.hid rfl⟩
  obtain ⟨m, hm⟩ : ∃ m, Hid (M k = m) := ⟨_, Lib.hid rfl⟩
  rw [hu.out] at u0 u1
  rw [hm.out] at m0 m1
  rw [hu.out, hm.out] at hq
  have w3k : IntKind.i64.wrap (u + n) = u + n := IntWalk.i64_in _ (by omega)
  have t1 : decide (m < u + n) = true := decide_eq_true (by omega)
  have k0 : (0 : Int) ≤ (k : Int) + 1 := by omega
  have k1 : (k : Int) + 1 < 17 := by omega
  clear hC q1 q2
  go_enter Try.func28, Try.ntmps28
  go_wp2_with (first | (go_at_call 34; (with_reducible refine (rasked_any _ [(k : Int) + 1] 1 h1 (by omega) n _ 1 HA.out 0 he.out).mono ?_); rintro r w1 ⟨rfl, hb1⟩; have HC1 := HC.out.below hb1; have z1 := hb1.size; rw [World.size_alloc] at z1; have c1 := HC1.used hk; have c2 := HC1.most hk; have f1 := HC1.frozen (k + 1); have f2 := HC1.frozen (17 + (k + 1)); rw [hu.out] at c1; rw [hm.out] at c2))
  go_quiet (fail)
  go_wp2
  go_ret
  exact ⟨rfl, by (repeat' (first | (with_reducible exact Below.refl _ _) | (with_reducible assumption) | (with_reducible refine Below.alloc ?_ ?_ _) | (with_reducible refine below_drewN ?_ _) | (with_reducible refine Below.drew ?_) | (with_reducible refine Below.setCell ?_ ?_ _) | (with_reducible refine below_two ?_ (by with_reducible assumption)) | go_size))⟩

set_option maxHeartbeats 1000000 in
theorem rdown_ok (w : World) (b : Nat) (U M : Nat → Int) (hC : ReAt w b U M) (hF : Fine U M) (n : Int) (k : Nat) (hk : k < 16) (he : Hid (askF [(k : Int) + 1] n = 0)) (hq : n ≤ U k) :
    Calls Try.prog 29 #[.pointer (some ⟨b, 0, none⟩), .int .i64 ((k : Int) + 1), .int .i64 n] w fun r w' => r = .returned (.int .i64 0) ∧ ReAt w' b (upd U k (U k - n)) M ∧ One b w w' := by
  have HA := Lib.hid (Row.of_one (Blk.new w 3 #[.int .i64 ((k : Int) + 1)]))
  have HC := Lib.hid (hC.alloc (.cells #[.int .i64 ((k : Int) + 1)] 3))
  have h1 : Hid (List.length [(k : Int) + 1] = 1) := Lib.hid rfl
  have bl := hC.lt
  obtain ⟨q1, q2, q3, q4⟩ := ask_one he.out
  obtain ⟨u0, u1, m0, m1⟩ := hF k hk
  obtain ⟨u, hu⟩ : ∃ u, Hid (U k = u) := ⟨_, Lib.hid rfl⟩
  obtain ⟨m, hm⟩ : ∃ m, Hid (M k = m) := ⟨_, Lib.hid rfl⟩
  rw [hu.out] at u0 u1
  rw [hm.out] at m0 m1
  rw [hu.out] at hq
  have w3k : IntKind.i64.wrap (u - n) = u - n := IntWalk.i64_in _ (by omega)
  have t1 : decide (u < n) = false := decide_eq_false (by omega)
  have k0 : (0 : Int) ≤ (k : Int) + 1 := by omega
  have k1 : (k : Int) + 1 < 17 := by omega
  clear hC q1 q2
  go_enter Try.func29, Try.ntmps29
  go_wp2_with (first | (go_at_call 34; (with_reducible refine (rasked_any _ [(k : Int) + 1] 1 h1 (by omega) n _ 1 HA.out 0 he.out).mono ?_); rintro r w1 ⟨rfl, hb1⟩; have HC1 := HC.out.below hb1; have z1 := hb1.size; rw [World.size_alloc] at z1; have c1 := HC1.used hk; have c2 := HC1.most hk; have f1 := HC1.frozen (k + 1); have f2 := HC1.frozen (17 + (k + 1)); rw [hu.out] at c1; rw [hm.out] at c2))
  go_region
  all_goals go_wp2
  go_ret
  exact ⟨rfl, by rw [hu.out]; exact (HC1.setUsed hk _).drew, ((One.of_below b (below_box hb1)).set _ _).drew⟩

set_option maxHeartbeats 1000000 in
theorem rdown_no (w : World) (b : Nat) (U M : Nat → Int) (hC : ReAt w b U M) (hF : Fine U M) (n : Int) (k : Nat) (hk : k < 16) (he : Hid (askF [(k : Int) + 1] n = 0)) (hq : U k < n) :
    Calls Try.prog 29 #[.pointer (some ⟨b, 0, none⟩), .int .i64 ((k : Int) + 1), .int .i64 n] w fun r w' => r = .returned (.int .i64 2) ∧ Below w.heap.size w w' := by
  have HA := Lib.hid (Row.of_one (Blk.new w 3 #[.int .i64 ((k : Int) + 1)]))
  have HC := Lib.hid (hC.alloc (.cells #[.int .i64 ((k : Int) + 1)] 3))
  have h1 : Hid (List.length [(k : Int) + 1] = 1) := Lib.hid rfl
  have bl := hC.lt
  obtain ⟨q1, q2, q3, q4⟩ := ask_one he.out
  obtain ⟨u0, u1, m0, m1⟩ := hF k hk
  obtain ⟨u, hu⟩ : ∃ u, Hid (U k = u) := ⟨_, Lib.hid rfl⟩
  obtain ⟨m, hm⟩ : ∃ m, Hid (M k = m) := ⟨_, Lib.hid rfl⟩
  rw [hu.out] at u0 u1
  rw [hm.out] at m0 m1
  rw [hu.out] at hq
  have w3k : IntKind.i64.wrap (u - n) = u - n := IntWalk.i64_in _ (by omega)
  have t1 : decide (u < n) = true := decide_eq_true (by omega)
  have k0 : (0 : Int) ≤ (k : Int) + 1 := by omega
  have k1 : (k : Int) + 1 < 17 := by omega
  clear hC q1 q2
  go_enter Try.func29, Try.ntmps29
  go_wp2_with (first | (go_at_call 34; (with_reducible refine (rasked_any _ [(k : Int) + 1] 1 h1 (by omega) n _ 1 HA.out 0 he.out).mono ?_); rintro r w1 ⟨rfl, hb1⟩; have HC1 := HC.out.below hb1; have z1 := hb1.size; rw [World.size_alloc] at z1; have c1 := HC1.used hk; have c2 := HC1.most hk; have f1 := HC1.frozen (k + 1); have f2 := HC1.frozen (17 + (k + 1)); rw [hu.out] at c1; rw [hm.out] at c2))
  go_ret
  exact ⟨rfl, by (repeat' (first | (with_reducible exact Below.refl _ _) | (with_reducible assumption) | (with_reducible refine Below.alloc ?_ ?_ _) | (with_reducible refine below_drewN ?_ _) | (with_reducible refine Below.drew ?_) | (with_reducible refine Below.setCell ?_ ?_ _) | (with_reducible refine below_two ?_ (by with_reducible assumption)) | go_size))⟩

theorem rused_ok (w : World) (b : Nat) (U M : Nat → Int) (hC : ReAt w b U M) (k : Nat) (hk : k < 16) (v : Int) (hv : U k = v) :
    Calls Try.prog 18 #[.pointer (some ⟨b, 0, none⟩), .int .i64 ((k : Int) + 1)] w fun r w' => r = .returned (.int .i64 v) ∧ w' = w := by
  have c1 := hC.used hk
  rw [hv] at c1
  have k0 : (0 : Int) ≤ (k : Int) + 1 := by omega
  have k1 : (k : Int) + 1 < 17 := by omega
  clear hC hv
  go_enter Try.func18, Try.ntmps18
  go_wp2_with (first | (go_at_call 33; with_reducible refine (group_yes _ (by omega) (by omega) _).mono ?_; rintro e w0 ⟨rfl, hw0⟩; replace hw0 := hw0.symm; subst hw0))
  go_ret
  exact ⟨rfl, rfl⟩
theorem rused_out (w : World) (b : Nat) (x : Int) (hx : ¬ (1 ≤ x ∧ x ≤ 16)) :
    Calls Try.prog 18 #[.pointer (some ⟨b, 0, none⟩), .int .i64 x] w fun r w' => r = .returned (.int .i64 0) ∧ w' = w := by
  have HX := Lib.hid hx
  clear hx
  go_enter Try.func18, Try.ntmps18
  go_wp2_with (first | (go_at_call 33; with_reducible refine (group_no _ HX.out _).mono ?_; rintro e w0 ⟨rfl, hw0⟩; replace hw0 := hw0.symm; subst hw0))
  go_ret
  exact ⟨rfl, rfl⟩

theorem rmost_ok (w : World) (b : Nat) (U M : Nat → Int) (hC : ReAt w b U M) (k : Nat) (hk : k < 16) (v : Int) (hv : M k = v) :
    Calls Try.prog 20 #[.pointer (some ⟨b, 0, none⟩), .int .i64 ((k : Int) + 1)] w fun r w' => r = .returned (.int .i64 v) ∧ w' = w := by
  have c1 := hC.most hk
  rw [hv] at c1
  have k0 : (0 : Int) ≤ (k : Int) + 1 := by omega
  have k1 : (k : Int) + 1 < 17 := by omega
  clear hC hv
  go_enter Try.func20, Try.ntmps20
  go_wp2_with (first | (go_at_call 33; with_reducible refine (group_yes _ (by omega) (by omega) _).mono ?_; rintro e w0 ⟨rfl, hw0⟩; replace hw0 := hw0.symm; subst hw0))
  go_ret
  exact ⟨rfl, rfl⟩
theorem rmost_out (w : World) (b : Nat) (x : Int) (hx : ¬ (1 ≤ x ∧ x ≤ 16)) :
    Calls Try.prog 20 #[.pointer (some ⟨b, 0, none⟩), .int .i64 x] w fun r w' => r = .returned (.int .i64 0) ∧ w' = w := by
  have HX := Lib.hid hx
  clear hx
  go_enter Try.func20, Try.ntmps20
  go_wp2_with (first | (go_at_call 33; with_reducible refine (group_no _ HX.out _).mono ?_; rintro e w0 ⟨rfl, hw0⟩; replace hw0 := hw0.symm; subst hw0))
  go_ret
  exact ⟨rfl, rfl⟩

/-- The limits that are set so far: places 0 to i - 1. -/
def rsomeM (i : Nat) : Nat → Int := fun k => if k + 1 < i then 9007199254740991 else 0
theorem reC_new : ReC #[.int .i64 0, .int .i64 0, .int .i64 0, .int .i64 0, .int .i64 0, .int .i64 0, .int .i64 0, .int .i64 0, .int .i64 0, .int .i64 0, .int .i64 0, .int .i64 0, .int .i64 0, .int .i64 0, .int .i64 0, .int .i64 0, .int .i64 0, .int .i64 0, .int .i64 0, .int .i64 0, .int .i64 0, .int .i64 0, .int .i64 0, .int .i64 0, .int .i64 0, .int .i64 0, .int .i64 0, .int .i64 0, .int .i64 0, .int .i64 0, .int .i64 0, .int .i64 0, .int .i64 0, .int .i64 0] zeroU (rsomeM 0) := by
  refine ⟨rfl, fun k hk => ?_⟩
  obtain rfl | rfl | rfl | rfl | rfl | rfl | rfl | rfl | rfl | rfl | rfl | rfl | rfl | rfl | rfl | rfl : k = 0 ∨ k = 1 ∨ k = 2 ∨ k = 3 ∨ k = 4 ∨ k = 5 ∨ k = 6 ∨ k = 7 ∨ k = 8 ∨ k = 9 ∨ k = 10 ∨ k = 11 ∨ k = 12 ∨ k = 13 ∨ k = 14 ∨ k = 15 := by omega
  all_goals exact ⟨rfl, rfl⟩
theorem rsomeM_next (i : Nat) : upd (rsomeM (i + 1)) i 9007199254740991 = rsomeM (i + 2) := by
  funext k
  unfold upd rsomeM
  by_cases h : k = i
  · rw [if_pos h, if_pos (by omega)]
  · rw [if_neg h]
    by_cases h2 : k + 1 < i + 1
    · rw [if_pos h2, if_pos (by omega)]
    · rw [if_neg h2, if_neg (by omega)]
theorem rsomeM_one : rsomeM 1 = rsomeM 0 := by
  funext k
  unfold rsomeM
  rw [if_neg (by omega), if_neg (by omega)]
theorem ReAt.set17 {w : World} {b : Nat} {U M : Nat → Int} (h : ReAt w b U M) (u : Value) : ReAt (w.setCell ⟨b, 17, none⟩ u) b U M := by
  obtain ⟨cs, hB, hs, hC⟩ := h
  refine ⟨_, hB.set_ 17 u, by simp [hs], fun j hj => ⟨?_, ?_⟩⟩
  · rw [Array.getElem?_setIfInBounds_ne (by omega)]; exact (hC j hj).1
  · rw [Array.getElem?_setIfInBounds_ne (by omega)]; exact (hC j hj).2
theorem ReAt.cell17 {w : World} {b : Nat} {U M : Nat → Int} (h : ReAt w b U M) : ∃ v, w.cell? ⟨b, 17, none⟩ = some v := by
  obtain ⟨cs, hB, hs, hC⟩ := h
  rw [hB.cell]
  exact ⟨_, Array.getElem?_eq_getElem (by omega)⟩
theorem ReAt.congrM {w : World} {b : Nat} {U M M' : Nat → Int} (h : ReAt w b U M) (e : ∀ k, k < 16 → M k = M' k) : ReAt w b U M' := by
  obtain ⟨cs, hB, hs, hC⟩ := h
  exact ⟨cs, hB, hs, fun k hk => ⟨(hC k hk).1, by rw [← e k hk]; exact (hC k hk).2⟩⟩

set_option maxRecDepth 100000 in
set_option maxHeartbeats 2000000 in
theorem rnew_any (w : World) : Calls Try.prog 16 #[] w fun e w' => ∃ b, e = .returned (.pointer (some ⟨b, 0, none⟩)) ∧ ReAt w' b zeroU mostU ∧ w.heap.size ≤ b ∧ Below w.heap.size w w' := by
  go_enter Try.func16, Try.ntmps16
  go_wp2
  have hC : ReAt (w.alloc (.cells #[.int .i64 0, .int .i64 0, .int .i64 0, .int .i64 0, .int .i64 0, .int .i64 0, .int .i64 0, .int .i64 0, .int .i64 0, .int .i64 0, .int .i64 0, .int .i64 0, .int .i64 0, .int .i64 0, .int .i64 0, .int .i64 0, .int .i64 0, .int .i64 0, .int .i64 0, .int .i64 0, .int .i64 0, .int .i64 0, .int .i64 0, .int .i64 0, .int .i64 0, .int .i64 0, .int .i64 0, .int .i64 0, .int .i64 0, .int .i64 0, .int .i64 0, .int .i64 0, .int .i64 0, .int .i64 0] 48)) w.heap.size zeroU (rsomeM 0) := ⟨_, Blk.new w 48 _, reC_new⟩
  go_loopw [2] (fun q wr => ∃ i : Nat, i ≤ 17 ∧ q = .int .i64 i ∧ ReAt wr w.heap.size zeroU (rsomeM i) ∧ Below w.heap.size w wr) (fun q _ => 17 - (intOf q).toNat)
  case atStart => exact ⟨0, by omega, rfl, hC, by (repeat' (first | (with_reducible exact Below.refl _ _) | (with_reducible assumption) | (with_reducible refine Below.alloc ?_ ?_ _) | (with_reducible refine below_drewN ?_ _) | (with_reducible refine Below.drew ?_) | (with_reducible refine Below.setCell ?_ ?_ _) | (with_reducible refine below_two ?_ (by with_reducible assumption)) | go_size))⟩
  case round =>
    clear hC
    obtain ⟨i, hi, rfl, hC, hw⟩ := hrel
    by_cases hlt : i < 17
    · rcases Nat.eq_zero_or_pos i with h0 | h0
      · subst h0
        obtain ⟨v, c2⟩ := hC.cell17
        have f2 := hC.frozen 17
        have HN := Lib.hid (hC.set17 (.int .i64 9007199254740991))
        rw [← rsomeM_one] at HN
        clear hC
        go_wp2
        go_roundw
        case rel => exact ⟨1, by omega, by go_num, HN.out, hw.setCell (Nat.le_refl _) _⟩
        case measure => simp [intOf]
      · obtain ⟨k, rfl⟩ : ∃ k, i = k + 1 := ⟨i - 1, by omega⟩
        have hk : k < 16 := by omega
        have c2 := hC.most hk
        have f2 := hC.frozen (17 + (k + 1))
        have HN := Lib.hid (hC.setMost hk 9007199254740991)
        rw [rsomeM_next] at HN
        obtain ⟨v, hv⟩ : ∃ v, rsomeM (k + 1) k = v := ⟨_, rfl⟩
        rw [hv] at c2
        have k0 : (0 : Int) ≤ ((k + 1 : Nat) : Int) := by omega
        have k1 : ((k + 1 : Nat) : Int) < 17 := by omega
        clear hC hv
        go_wp2
        go_roundw
        case rel => exact ⟨k + 2, by omega, by go_num, HN.out, hw.setCell (Nat.le_refl _) _⟩
        case measure => simp [intOf]; omega
    · have hi17 : i = 17 := by omega
      subst hi17
      go_wp2
      go_ret
      exact ⟨_, rfl, hC.congrM (fun k hk => by unfold rsomeM mostU; rw [if_pos (by omega)]), Nat.le_refl _, hw⟩

theorem rlimit_all (w : World) (b : Nat) (U M : Nat → Int) (hC : ReAt w b U M) (hF : Fine U M) (x n e : Int) (he : Hid (askF [x] n = e)) (M' : Nat → Int) (hM : Hid (limM M x n = M')) :
    Calls Try.prog 27 #[.pointer (some ⟨b, 0, none⟩), .int .i64 x, .int .i64 n] w fun r w' => r = .returned (.int .i64 e) ∧ ReAt w' b U M' ∧ One b w w' := by
  by_cases h0 : e = 0
  · subst h0
    obtain ⟨hk, hx⟩ := one_k he.out
    have h2 := hM.out
    unfold limM at h2
    rw [if_pos he.out] at h2
    obtain ⟨k, hkk⟩ : ∃ k, (x - 1).toNat = k := ⟨_, rfl⟩
    rw [hkk] at hk hx h2
    obtain rfl : x = (k : Int) + 1 := by omega
    subst h2
    exact rlimit_ok w b U M hC hF n k hk he
  · refine (rlimit_err w b U M hC x n e he h0).mono ?_
    rintro r w' ⟨h1, h2⟩
    refine ⟨h1, ?_, One.of_below b h2⟩
    rw [← hM.out]
    unfold limM
    rw [if_neg (by rw [he.out]; exact h0)]
    exact hC.below h2

theorem rup_all (w : World) (b : Nat) (U M : Nat → Int) (hC : ReAt w b U M) (hF : Fine U M) (x n e : Int) (he : Hid (upE U M x n = e)) (U' : Nat → Int) (hU : Hid (upU U M x n = U')) :
    Calls Try.prog 28 #[.pointer (some ⟨b, 0, none⟩), .int .i64 x, .int .i64 n] w fun r w' => r = .returned (.int .i64 e) ∧ ReAt w' b U' M ∧ One b w w' := by
  have h1 := he.out
  have h2 := hU.out
  unfold upU at h2
  rw [h1] at h2
  unfold upE at h1
  by_cases h0 : askF [x] n = 0
  · obtain ⟨hk, hx⟩ := one_k h0
    rw [if_pos h0] at h1
    obtain ⟨k, hkk⟩ : ∃ k, (x - 1).toNat = k := ⟨_, rfl⟩
    rw [hkk] at hk hx h1 h2
    obtain rfl : x = (k : Int) + 1 := by omega
    by_cases hq : n ≤ M k - U k
    · rw [if_pos hq] at h1
      rw [← h1, if_pos rfl] at h2
      subst h1 h2
      exact rup_ok w b U M hC hF n k hk (Lib.hid h0) (by omega)
    · rw [if_neg hq] at h1
      rw [← h1, if_neg (by decide)] at h2
      subst h1 h2
      exact (rup_full w b U M hC hF n k hk (Lib.hid h0) (by omega)).mono fun r w' h => ⟨h.1, hC.below h.2, One.of_below b h.2⟩
  · rw [if_neg h0] at h1
    rw [if_neg (by rw [← h1]; exact h0)] at h2
    subst h2
    exact (rup_err w b U M hC x n e (Lib.hid h1) (by rw [← h1]; exact h0)).mono fun r w' h => ⟨h.1, hC.below h.2, One.of_below b h.2⟩

theorem rdown_all (w : World) (b : Nat) (U M : Nat → Int) (hC : ReAt w b U M) (hF : Fine U M) (x n e : Int) (he : Hid (dnE U x n = e)) (U' : Nat → Int) (hU : Hid (dnU U x n = U')) :
    Calls Try.prog 29 #[.pointer (some ⟨b, 0, none⟩), .int .i64 x, .int .i64 n] w fun r w' => r = .returned (.int .i64 e) ∧ ReAt w' b U' M ∧ One b w w' := by
  have h1 := he.out
  have h2 := hU.out
  unfold dnU at h2
  rw [h1] at h2
  unfold dnE at h1
  by_cases h0 : askF [x] n = 0
  · obtain ⟨hk, hx⟩ := one_k h0
    rw [if_pos h0] at h1
    obtain ⟨k, hkk⟩ : ∃ k, (x - 1).toNat = k := ⟨_, rfl⟩
    rw [hkk] at hk hx h1 h2
    obtain rfl : x = (k : Int) + 1 := by omega
    by_cases hq : n ≤ U k
    · rw [if_pos hq] at h1
      rw [← h1, if_pos rfl] at h2
      subst h1 h2
      exact rdown_ok w b U M hC hF n k hk (Lib.hid h0) (by omega)
    · rw [if_neg hq] at h1
      rw [← h1, if_neg (by decide)] at h2
      subst h1 h2
      exact (rdown_no w b U M hC hF n k hk (Lib.hid h0) (by omega)).mono fun r w' h => ⟨h.1, hC.below h.2, One.of_below b h.2⟩
  · rw [if_neg h0] at h1
    rw [if_neg (by rw [← h1]; exact h0)] at h2
    subst h2
    exact (rdown_err w b U M hC x n e (Lib.hid h1) (by rw [← h1]; exact h0)).mono fun r w' h => ⟨h.1, hC.below h.2, One.of_below b h.2⟩

end Go.Proofs.Ytnbeofbkfopehaa
