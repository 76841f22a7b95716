/-
  The reference's has, Lock, Unlock, Depth, Waits, Done, Wanted, begin, waited, later.
-/
import Derived.Test.YtodaknidbdicdaaRefA
import Derived.WalkKit
import Derived.Deep.DeepMust
import Derived.WalkSpells
import Derived.WalkLawsBesides
import Derived.Handy
import Derived.Lib.Hide
import Derived.Deep.QuietTactic
import Derived.BigQuiet
namespace Go.Proofs.Ytodaknidbdicdaa
open Go.RowKit

section
variable {B r da ra na : Nat} {gs : List Nat} {G : Gr}
theorem has_any (w : World) (h : RefIn w B r da ra na gs G) (hI : Inv G) (x : Int) : Calls Try.prog 44 #[.pointer (some ⟨r, 0, none⟩), .int .i64 x] w fun e w' =>
    e = .returned (.bool (decide (0 ≤ x ∧ x < G.C))) ∧ w' = w := by
  have c0 := h.c0
  have h2 := hI.c2
  obtain ⟨C, hC⟩ : ∃ C, G.C = C := ⟨_, rfl⟩
  rw [hC] at c0 h2 ⊢
  clear h hI hC
  rcases (by omega : x < 0 ∨ (0 ≤ x ∧ (C : Int) ≤ x) ∨ (0 ≤ x ∧ x < C)) with h3 | ⟨h3, h4⟩ | ⟨h3, h4⟩
  all_goals
    first | rw [decide_eq_true (show 0 ≤ x ∧ x < (C : Int) from ⟨h3, h4⟩)] | rw [decide_eq_false (by omega)]
    go_enter Try.func44, Try.ntmps44
    go_wp2
    go_ret
    exact ⟨ret_bool (by first | rfl | (simp; omega)), rfl⟩

theorem rlock_no (w : World) (h : RefIn w B r da ra na gs G) (hI : Inv G) (x : Int) (hx : ¬ (0 ≤ x ∧ x < G.C)) : Calls Try.prog 29 #[.pointer (some ⟨r, 0, none⟩), .int .i64 x] w fun e w' => e = .returned (.int .i64 9) ∧ w' = w := by
  have HG := Lib.hid h
  have HI := Lib.hid hI
  have hz := Lib.hid (decide_eq_false hx)
  clear h hI hx
  go_enter Try.func29, Try.ntmps29
  go_wp2_with (first | (go_at_call 44; (with_reducible refine (has_any _ HG.out HI.out x).mono ?_); rintro e wq ⟨rfl, hwq⟩; replace hwq := hwq.symm; subst hwq; rw [hz.out]))
  go_ret
  exact ⟨rfl, rfl⟩
theorem runlock_no (w : World) (h : RefIn w B r da ra na gs G) (hI : Inv G) (x : Int) (hx : ¬ (0 ≤ x ∧ x < G.C)) : Calls Try.prog 30 #[.pointer (some ⟨r, 0, none⟩), .int .i64 x] w fun e w' => e = .returned (.int .i64 9) ∧ w' = w := by
  have HG := Lib.hid h
  have HI := Lib.hid hI
  have hz := Lib.hid (decide_eq_false hx)
  clear h hI hx
  go_enter Try.func30, Try.ntmps30
  go_wp2_with (first | (go_at_call 44; (with_reducible refine (has_any _ HG.out HI.out x).mono ?_); rintro e wq ⟨rfl, hwq⟩; replace hwq := hwq.symm; subst hwq; rw [hz.out]))
  go_ret
  exact ⟨rfl, rfl⟩
theorem rquiet_no (w : World) (h : RefIn w B r da ra na gs G) (hI : Inv G) (x : Int) (hx : ¬ (0 ≤ x ∧ x < G.C)) : Calls Try.prog 31 #[.pointer (some ⟨r, 0, none⟩), .int .i64 x] w fun e w' => e = .returned (.int .i64 9) ∧ w' = w := by
  have HG := Lib.hid h
  have HI := Lib.hid hI
  have hz := Lib.hid (decide_eq_false hx)
  clear h hI hx
  go_enter Try.func31, Try.ntmps31
  go_wp2_with (first | (go_at_call 44; (with_reducible refine (has_any _ HG.out HI.out x).mono ?_); rintro e wq ⟨rfl, hwq⟩; replace hwq := hwq.symm; subst hwq; rw [hz.out]))
  go_ret
  exact ⟨rfl, rfl⟩
theorem rcall_no (w : World) (h : RefIn w B r da ra na gs G) (hI : Inv G) (x i : Int) (hx : ¬ (0 ≤ x ∧ x < G.C)) : Calls Try.prog 32 #[.pointer (some ⟨r, 0, none⟩), .int .i64 x, .int .i64 i] w fun e w' => e = .returned (.int .i64 9) ∧ w' = w := by
  have HG := Lib.hid h
  have HI := Lib.hid hI
  have hz := Lib.hid (decide_eq_false hx)
  clear h hI hx
  go_enter Try.func32, Try.ntmps32
  go_wp2_with (first | (go_at_call 44; (with_reducible refine (has_any _ HG.out HI.out x).mono ?_); rintro e wq ⟨rfl, hwq⟩; replace hwq := hwq.symm; subst hwq; rw [hz.out]))
  go_ret
  exact ⟨rfl, rfl⟩
theorem rpoll_no (w : World) (h : RefIn w B r da ra na gs G) (hI : Inv G) (x : Int) (hx : ¬ (0 ≤ x ∧ x < G.C)) : Calls Try.prog 33 #[.pointer (some ⟨r, 0, none⟩), .int .i64 x] w fun e w' => e = .returned (.tuple #[.slice none 0 0, .int .i64 9]) ∧ w' = w := by
  have HG := Lib.hid h
  have HI := Lib.hid hI
  have hz := Lib.hid (decide_eq_false hx)
  clear h hI hx
  go_enter Try.func33, Try.ntmps33
  go_wp2_with (first | (go_at_call 44; (with_reducible refine (has_any _ HG.out HI.out x).mono ?_); rintro e wq ⟨rfl, hwq⟩; replace hwq := hwq.symm; subst hwq; rw [hz.out]))
  go_ret2
  exact ⟨rfl, rfl⟩

set_option maxHeartbeats 1000000 in
theorem rlock_ok (w : World) (h : RefIn w B r da ra na gs G) (hI : Inv G) (k : Nat) (hk : k < G.C) : Calls Try.prog 29 #[.pointer (some ⟨r, 0, none⟩), .int .i64 (k : Int)] w fun e w' =>
    e = .returned (.int .i64 (lockG G k).2) ∧ RefIn w' B r da ra na gs (lockG G k).1 ∧ Rws [r, da, ra, na] w w' := by
  have HG := Lib.hid h
  have HI := Lib.hid hI
  have hz := Lib.hid (decide_eq_true (show 0 ≤ (k : Int) ∧ (k : Int) < G.C from ⟨by omega, by omega⟩))
  have c0 := h.c0
  have c1 := h.cD hk
  have f1 := h.deep.frz k
  obtain ⟨d1, d2⟩ := hI.d k
  have k0 : (0 : Int) ≤ (k : Int) := by omega
  have k1 : (k : Int) < (G.C : Int) := by omega
  have h2 := hI.c2
  obtain ⟨C, hC⟩ : ∃ C, G.C = C := ⟨_, rfl⟩
  rw [hC] at c0 k1 h2
  by_cases h8 : G.D k = 8
  · have e0 : lockG G k = (G, 5) := by unfold lockG; rw [decide_eq_true h8]; rfl
    rw [e0]
    rw [h8] at c1
    clear h hI hk d1 d2 h8 e0 hC
    go_enter Try.func29, Try.ntmps29
    go_wp2_with (first | (go_at_call 44; (with_reducible refine (has_any _ HG.out HI.out k).mono ?_); rintro e wq ⟨rfl, hwq⟩; replace hwq := hwq.symm; subst hwq; rw [hz.out]))
    go_ret
    exact ⟨rfl, HG.out, Rws.refl _ _⟩
  · have e0 : lockG G k = ({ G with D := upd G.D k (G.D k + 1) }, 0) := by unfold lockG; rw [decide_eq_false h8]; rfl
    rw [e0]
    obtain ⟨d, hd⟩ : ∃ d, G.D k = d := ⟨_, rfl⟩
    have HD := Lib.hid hd
    rw [hd] at c1 d1 d2 h8
    have hb8 : (d == 8) = false := by rw [beq_eq_false_iff_ne]; exact h8
    have w3k : IntKind.i64.wrap (d + 1) = d + 1 := IntWalk.i64_in _ (by omega)
    clear h hI hk e0 hd hC
    go_enter Try.func29, Try.ntmps29
    go_wp2_with (first | (go_at_call 44; (with_reducible refine (has_any _ HG.out HI.out k).mono ?_); rintro e wq ⟨rfl, hwq⟩; replace hwq := hwq.symm; subst hwq; rw [hz.out]))
    go_region
    all_goals go_wp2
    all_goals go_ret
    all_goals exact ⟨rfl, by rw [HD.out]; exact ((HG.out.drewN _).setD k _), ((Rws.refl _ _).drewN _).set (by simp) _ _⟩

set_option maxHeartbeats 1000000 in
theorem runlock_ok (w : World) (h : RefIn w B r da ra na gs G) (hI : Inv G) (k : Nat) (hk : k < G.C) : Calls Try.prog 30 #[.pointer (some ⟨r, 0, none⟩), .int .i64 (k : Int)] w fun e w' =>
    e = .returned (.int .i64 (unlockG G k).2) ∧ RefIn w' B r da ra na gs (unlockG G k).1 ∧ Rws [r, da, ra, na] w w' := by
  have HG := Lib.hid h
  have HI := Lib.hid hI
  have hz := Lib.hid (decide_eq_true (show 0 ≤ (k : Int) ∧ (k : Int) < G.C from ⟨by omega, by omega⟩))
  have c0 := h.c0
  have c1 := h.cD hk
  have f1 := h.deep.frz k
  obtain ⟨d1, d2⟩ := hI.d k
  have k0 : (0 : Int) ≤ (k : Int) := by omega
  have k1 : (k : Int) < (G.C : Int) := by omega
  have h2 := hI.c2
  obtain ⟨C, hC⟩ : ∃ C, G.C = C := ⟨_, rfl⟩
  rw [hC] at c0 k1 h2
  by_cases h8 : G.D k = 0
  · have e0 : unlockG G k = (G, 292) := by unfold unlockG; rw [decide_eq_true h8]; rfl
    rw [e0]
    rw [h8] at c1
    clear h hI hk d1 d2 h8 e0 hC
    go_enter Try.func30, Try.ntmps30
    go_wp2_with (first | (go_at_call 44; (with_reducible refine (has_any _ HG.out HI.out k).mono ?_); rintro e wq ⟨rfl, hwq⟩; replace hwq := hwq.symm; subst hwq; rw [hz.out]))
    go_ret
    exact ⟨rfl, HG.out, Rws.refl _ _⟩
  · have e0 : unlockG G k = ({ G with D := upd G.D k (G.D k - 1) }, 0) := by unfold unlockG; rw [decide_eq_false h8]; rfl
    rw [e0]
    obtain ⟨d, hd⟩ : ∃ d, G.D k = d := ⟨_, rfl⟩
    have HD := Lib.hid hd
    rw [hd] at c1 d1 d2 h8
    have hb8 : (d == 0) = false := by rw [beq_eq_false_iff_ne]; exact h8
    have w3k : IntKind.i64.wrap (d - 1) = d - 1 := IntWalk.i64_in _ (by omega)
    clear h hI hk e0 hd hC
    go_enter Try.func30, Try.ntmps30
    go_wp2_with (first | (go_at_call 44; (with_reducible refine (has_any _ HG.out HI.out k).mono ?_); rintro e wq ⟨rfl, hwq⟩; replace hwq := hwq.symm; subst hwq; rw [hz.out]))
    go_region
    all_goals go_wp2
    all_goals go_ret
    all_goals exact ⟨rfl, by rw [HD.out]; exact ((HG.out.drewN _).setD k _), ((Rws.refl _ _).drewN _).set (by simp) _ _⟩

theorem rdone_any (w : World) (h : RefIn w B r da ra na gs G) : Calls Try.prog 35 #[.pointer (some ⟨r, 0, none⟩)] w fun e w' =>
    e = .returned (.tuple #[.int .i64 (G.E : Int), .bool G.go]) ∧ Below w.heap.size w w' := by
  have c2 := h.c2
  have c3 := h.c3
  have hl := h.blk.lt
  clear h
  go_enter Try.func35, Try.ntmps35
  go_wp2
  (refine wp_region_ext (w.heap.size) (by kernel_rfl) (by kernel_rfl) (by go_size) (fun hxc hxf hxh hxn => ?_); (repeat (first | go_big_quiet_step (fail) | quiet_step (fail))); refine wpQuiet_nil ?_; intro w1 hs1; clear hxc hxf hxh hxn; obtain ⟨hb1, hz1, hc1, hf1⟩ := ext_known hs1 (w.heap.size) (by go_size); clear hs1)
  go_wp2
  go_ret2
  exact ⟨rfl, hb1⟩

theorem rdepth_any (w : World) (h : RefIn w B r da ra na gs G) (hI : Inv G) (x : Int) : Calls Try.prog 36 #[.pointer (some ⟨r, 0, none⟩), .int .i64 x] w fun e w' =>
    e = .returned (.int .i64 (depF G x)) ∧ w' = w := by
  have HG := Lib.hid h
  have HI := Lib.hid hI
  by_cases hx : 0 ≤ x ∧ x < G.C
  · have hz := Lib.hid (decide_eq_true hx)
    obtain ⟨k, rfl⟩ := Int.eq_ofNat_of_zero_le hx.1
    have hv : depF G k = G.D k := by unfold depF; rw [decide_eq_true hx]; simp
    have c0 := h.c0
    have c1 := h.cD (k := k) (by omega)
    rw [hv]
    have k0 : (0 : Int) ≤ (k : Int) := by omega
    have k1 : (k : Int) < (G.C : Int) := hx.2
    clear h hI hv hx
    go_enter Try.func36, Try.ntmps36
    go_wp2_with (first | (go_at_call 44; (with_reducible refine (has_any _ HG.out HI.out k).mono ?_); rintro e wq ⟨rfl, hwq⟩; replace hwq := hwq.symm; subst hwq; rw [hz.out]))
    go_ret
    exact ⟨rfl, rfl⟩
  · have hz := Lib.hid (decide_eq_false hx)
    have hv : depF G x = 0 := by unfold depF; rw [decide_eq_false hx]; rfl
    rw [hv]
    clear h hI hv hx
    go_enter Try.func36, Try.ntmps36
    go_wp2_with (first | (go_at_call 44; (with_reducible refine (has_any _ HG.out HI.out x).mono ?_); rintro e wq ⟨rfl, hwq⟩; replace hwq := hwq.symm; subst hwq; rw [hz.out]))
    go_ret
    exact ⟨rfl, rfl⟩
theorem rwaits_any (w : World) (h : RefIn w B r da ra na gs G) (hI : Inv G) (x : Int) : Calls Try.prog 37 #[.pointer (some ⟨r, 0, none⟩), .int .i64 x] w fun e w' =>
    e = .returned (.int .i64 (waiF G x)) ∧ w' = w := by
  have HG := Lib.hid h
  have HI := Lib.hid hI
  by_cases hx : 0 ≤ x ∧ x < G.C
  · have hz := Lib.hid (decide_eq_true hx)
    obtain ⟨k, rfl⟩ := Int.eq_ofNat_of_zero_le hx.1
    have hv : waiF G k = ((G.L k).length : Int) := by unfold waiF; rw [decide_eq_true hx]; simp
    have c0 := h.c1
    obtain ⟨A, n, c, c1, hR⟩ := h.cR (k := k) (by omega)
    rw [hv, hR.len]
    have k0 : (0 : Int) ≤ (k : Int) := by omega
    have k1 : (k : Int) < (G.C : Int) := hx.2
    clear h hI hv hx
    go_enter Try.func37, Try.ntmps37
    go_wp2_with (first | (go_at_call 44; (with_reducible refine (has_any _ HG.out HI.out k).mono ?_); rintro e wq ⟨rfl, hwq⟩; replace hwq := hwq.symm; subst hwq; rw [hz.out]))
    go_ret
    exact ⟨rfl, rfl⟩
  · have hz := Lib.hid (decide_eq_false hx)
    have hv : waiF G x = 0 := by unfold waiF; rw [decide_eq_false hx]; rfl
    rw [hv]
    clear h hI hv hx
    go_enter Try.func37, Try.ntmps37
    go_wp2_with (first | (go_at_call 44; (with_reducible refine (has_any _ HG.out HI.out x).mono ?_); rintro e wq ⟨rfl, hwq⟩; replace hwq := hwq.symm; subst hwq; rw [hz.out]))
    go_ret
    exact ⟨rfl, rfl⟩
theorem rwanted_any (w : World) (h : RefIn w B r da ra na gs G) (hI : Inv G) (x : Int) : Calls Try.prog 38 #[.pointer (some ⟨r, 0, none⟩), .int .i64 x] w fun e w' =>
    e = .returned (.bool (wanF G x)) ∧ w' = w := by
  have HG := Lib.hid h
  have HI := Lib.hid hI
  by_cases hx : 0 ≤ x ∧ x < G.C
  · have hz := Lib.hid (decide_eq_true hx)
    obtain ⟨k, rfl⟩ := Int.eq_ofNat_of_zero_le hx.1
    have hv : wanF G k = (G.go && G.N k) := by unfold wanF; rw [decide_eq_true hx]; simp
    have c0 := h.c4
    have c3 := h.c3
    have c1 := h.cN (k := k) (by omega)
    rw [hv]
    have k0 : (0 : Int) ≤ (k : Int) := by omega
    have k1 : (k : Int) < (G.C : Int) := hx.2
    obtain ⟨q, hq⟩ : ∃ q, G.go = q := ⟨_, rfl⟩
    obtain ⟨n, hn⟩ : ∃ n, G.N k = n := ⟨_, rfl⟩
    rw [hq] at c3 ⊢
    rw [hn] at c1 ⊢
    clear h hI hv hx hq hn
    cases q <;> cases n
    all_goals
      go_enter Try.func38, Try.ntmps38
      go_wp2_with (first | (go_at_call 44; (with_reducible refine (has_any _ HG.out HI.out k).mono ?_); rintro e wq ⟨rfl, hwq⟩; replace hwq := hwq.symm; subst hwq; rw [hz.out]))
      go_ret
      exact ⟨rfl, rfl⟩
  · have hz := Lib.hid (decide_eq_false hx)
    have hv : wanF G x = false := by unfold wanF; rw [decide_eq_false hx]; rfl
    rw [hv]
    clear h hI hv hx
    go_enter Try.func38, Try.ntmps38
    go_wp2_with (first | (go_at_call 44; (with_reducible refine (has_any _ HG.out HI.out x).mono ?_); rintro e wq ⟨rfl, hwq⟩; replace hwq := hwq.symm; subst hwq; rw [hz.out]))
    go_ret
    exact ⟨rfl, rfl⟩
end

end Go.Proofs.Ytodaknidbdicdaa
