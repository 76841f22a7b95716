/-
  The walks of New, asked, row, Done, Depth, Waits, Wanted.
-/
import Derived.Test.YtodaknidbdicdaaState
import Derived.Test.YtodaknidbdicdaaExt
import Derived.Test.YtodaknidbdicdaaTail
import Derived.Test.YtodaknidbdicdaaRows
import Derived.WalkKit
import Derived.Deep.DeepMust
import Derived.WalkSpells
import Derived.WalkLawsBesides
import Derived.Handy
import Derived.Lib.Hide
import Derived.Deep.QuietTactic
import Derived.BigQuiet
namespace Go.Proofs.Ytodaknidbdicdaa
open Go.RowKit

def askE (C : Nat) (x : Int) : Int := bif decide (0 ≤ x ∧ x < C) then 0 else 9
theorem askE_no {C : Nat} {x : Int} (h : ¬ (0 ≤ x ∧ x < C)) : askE C x = 9 := by unfold askE; rw [decide_eq_false h]; rfl
theorem askE_yes {C : Nat} {x : Int} (h : 0 ≤ x ∧ x < C) : askE C x = 0 := by unfold askE; rw [decide_eq_true h]; rfl

theorem new_ok (C : Nat) (h1 : 1 ≤ C) (h2 : C ≤ 8) (w : World) : Calls Try.prog 7 #[.int .i64 (C : Int)] w fun e w' =>
    ∃ b, e = .returned (.tuple #[.pointer (some ⟨b, 0, none⟩), .int .i64 0]) ∧ w.heap.size ≤ b ∧ GrAt w' b [b] (newG C) ∧ Below w.heap.size w w' := by
  have a1 : ¬ (C : Int) < 1 := by omega
  have a2 : ¬ (8 : Int) < (C : Int) := by omega
  go_enter Try.func7, Try.ntmps7
  go_wp2
  go_ret2
  exact ⟨_, rfl, Nat.le_refl _, GrAt.new w C, by (repeat' (first | (with_reducible exact Below.refl _ _) | (with_reducible assumption) | (with_reducible refine Below.alloc ?_ ?_ _) | (with_reducible refine below_drewN ?_ _) | (with_reducible refine Below.drew ?_) | (with_reducible refine Below.setCell ?_ ?_ _) | (with_reducible refine below_two ?_ (by with_reducible assumption)) | go_size))⟩
theorem new_no (x : Int) (h : ¬ (1 ≤ x ∧ x ≤ 8)) (w : World) : Calls Try.prog 7 #[.int .i64 x] w fun e w' =>
    e = .returned (.tuple #[.pointer none, .int .i64 2]) ∧ w' = w := by
  rcases (by omega : x < 1 ∨ (¬ x < 1 ∧ 8 < x)) with h1 | ⟨h1, h2⟩ <;>
    (go_enter Try.func7, Try.ntmps7; go_wp2; go_ret2; exact ⟨rfl, rfl⟩)

theorem asked_any (w : World) (b : Nat) (gs : List Nat) (G : Gr) (h : GrAt w b gs G) (hI : Inv G) (x : Int) : Calls Try.prog 28 #[.pointer (some ⟨b, 0, none⟩), .int .i64 x] w fun e w' =>
    e = .returned (.int .i64 (askE G.C x)) ∧ w' = w := by
  have c0 := h.cpus
  have h1 := hI.c1
  have h2 := hI.c2
  obtain ⟨C, hC⟩ : ∃ C, G.C = C := ⟨_, rfl⟩
  rw [hC] at c0 h1 h2 ⊢
  clear h hI hC
  have hz : ((C : Int) == 0) = false := by rw [beq_eq_false_iff_ne]; omega
  rcases (by omega : x < 0 ∨ (0 ≤ x ∧ (C : Int) ≤ x) ∨ (0 ≤ x ∧ x < C)) with h3 | ⟨h3, h4⟩ | ⟨h3, h4⟩
  all_goals
    first | rw [askE_yes ⟨h3, h4⟩] | rw [askE_no (by omega)]
    go_enter Try.func28, Try.ntmps28
    go_wp2
    go_ret
    exact ⟨rfl, rfl⟩

theorem as_nil (w : World) : (Instr.typeAssert .nilIface 20 66 true).run Try.prog w = .ok (.tuple #[.slice none 0 0, .bool false]) w := by kernel_rfl
theorem as_row (w : World) (v : Value) : (Instr.typeAssert (.iface 66 v) 20 66 true).run Try.prog w = .ok (.tuple #[v, .bool true]) w := by kernel_rfl
theorem as_row' (w : World) (v : Value) : (Instr.typeAssert (.iface 66 v) 20 66 false).run Try.prog w = .ok v w := by kernel_rfl

theorem rowOf_any (w : World) (b : Nat) (gs : List Nat) (G : Gr) (h : GrAt w b gs G) (k : Nat) (hk : k < 8) : Calls Try.prog 40 #[.pointer (some ⟨b, 0, none⟩), .int .i64 (k : Int)] w fun e w' =>
    ∃ A n c, e = .returned (.slice A n c) ∧ HasRow w gs A n c (G.L k) ∧ w' = w := by
  obtain ⟨v, hv, hR⟩ := h.rows hk
  obtain ⟨l, hl⟩ : ∃ l, G.L k = l := ⟨_, rfl⟩
  rw [hl] at hR ⊢
  have k0 : (0 : Int) ≤ (k : Int) := by omega
  have k1 : (k : Int) < 8 := by omega
  clear h hl
  rcases hR with ⟨rfl, rfl⟩ | ⟨A, n, c, rfl, hR⟩
  · have q1 := as_nil
    go_enter Try.func40, Try.ntmps40
    go_wp2
    go_ret
    exact ⟨_, _, _, rfl, HasRow.nil _ _ _ _, rfl⟩
  · have q1 := as_row
    go_enter Try.func40, Try.ntmps40
    go_wp2
    go_ret
    exact ⟨_, _, _, rfl, hR, rfl⟩

theorem done_any (w : World) (b : Nat) (gs : List Nat) (G : Gr) (h : GrAt w b gs G) (hI : Inv G) : Calls Try.prog 14 #[.pointer (some ⟨b, 0, none⟩)] w fun e w' =>
    e = .returned (.tuple #[.int .i64 (G.E : Int), .bool G.go]) ∧ Below w.heap.size w w' := by
  have HG := Lib.hid h
  have HI := Lib.hid hI
  have c1 := h.ended
  have c2 := h.going
  have hz : Hid (askE G.C 0 = 0) := Lib.hid (askE_yes ⟨by omega, by have := hI.c1; omega⟩)
  have hl := h.lt
  clear h hI
  go_enter Try.func14, Try.ntmps14
  go_wp2_with (first | (go_at_call 28; (with_reducible refine (asked_any _ b gs G HG.out HI.out 0).mono ?_); rintro e wq ⟨rfl, hwq⟩; replace hwq := hwq.symm; subst hwq; rw [hz.out]))
  (refine wp_region_ext (w.heap.size) (by kernel_rfl) (by kernel_rfl) (by go_size) (fun hxc hxf hxh hxn => ?_); (repeat (first | go_big_quiet_step (fail) | quiet_step (fail))); refine wpQuiet_nil ?_; intro w1 hs1; clear hxc hxf hxh hxn; obtain ⟨hb1, hz1, hc1, hf1⟩ := ext_known hs1 (w.heap.size) (by go_size); clear hs1)
  go_wp2
  go_ret2
  exact ⟨rfl, hb1⟩

def depF (G : Gr) (x : Int) : Int := bif decide (0 ≤ x ∧ x < G.C) then G.D x.toNat else 0
def waiF (G : Gr) (x : Int) : Int := bif decide (0 ≤ x ∧ x < G.C) then ((G.L x.toNat).length : Int) else 0
def wanF (G : Gr) (x : Int) : Bool := decide (0 ≤ x ∧ x < G.C) && G.go && G.N x.toNat

theorem depth_any (w : World) (b : Nat) (gs : List Nat) (G : Gr) (h : GrAt w b gs G) (hI : Inv G) (x : Int) : Calls Try.prog 19 #[.pointer (some ⟨b, 0, none⟩), .int .i64 x] w fun e w' =>
    e = .returned (.int .i64 (depF G x)) ∧ w' = w := by
  have HG := Lib.hid h
  have HI := Lib.hid hI
  by_cases hx : 0 ≤ x ∧ x < G.C
  · have hz : Hid (askE G.C x = 0) := Lib.hid (askE_yes hx)
    obtain ⟨k, rfl⟩ := Int.eq_ofNat_of_zero_le hx.1
    have hk8 : k < 8 := by have := hI.c2; omega
    have hv : depF G k = G.D k := by unfold depF; rw [decide_eq_true hx]; simp
    have c1 := h.deep hk8
    rw [hv]
    have k0 : (0 : Int) ≤ (k : Int) := by omega
    have k1 : (k : Int) < 8 := by omega
    clear h hI hv hx
    go_enter Try.func19, Try.ntmps19
    go_wp2_with (first | (go_at_call 28; (with_reducible refine (asked_any _ b gs G HG.out HI.out k).mono ?_); rintro e wq ⟨rfl, hwq⟩; replace hwq := hwq.symm; subst hwq; rw [hz.out]))
    go_ret
    exact ⟨rfl, rfl⟩
  · have hz : Hid (askE G.C x = 9) := Lib.hid (askE_no hx)
    have hv : depF G x = 0 := by unfold depF; rw [decide_eq_false hx]; rfl
    rw [hv]
    clear h hI hv hx
    go_enter Try.func19, Try.ntmps19
    go_wp2_with (first | (go_at_call 28; (with_reducible refine (asked_any _ b gs G HG.out HI.out x).mono ?_); rintro e wq ⟨rfl, hwq⟩; replace hwq := hwq.symm; subst hwq; rw [hz.out]))
    go_ret
    exact ⟨rfl, rfl⟩

theorem waitsOf_any (w : World) (b : Nat) (gs : List Nat) (G : Gr) (h : GrAt w b gs G) (hI : Inv G) (x : Int) : Calls Try.prog 9 #[.pointer (some ⟨b, 0, none⟩), .int .i64 x] w fun e w' =>
    e = .returned (.int .i64 (waiF G x)) ∧ w' = w := by
  have HG := Lib.hid h
  have HI := Lib.hid hI
  by_cases hx : 0 ≤ x ∧ x < G.C
  · have hz : Hid (askE G.C x = 0) := Lib.hid (askE_yes hx)
    obtain ⟨k, rfl⟩ := Int.eq_ofNat_of_zero_le hx.1
    have hk8 : k < 8 := by have := hI.c2; omega
    have hv : waiF G k = ((G.L k).length : Int) := by unfold waiF; rw [decide_eq_true hx]; simp
    obtain ⟨v, hc, hR⟩ := h.rows hk8
    rw [hv]
    have k0 : (0 : Int) ≤ (k : Int) := by omega
    have k1 : (k : Int) < 8 := by omega
    clear h hI hv hx
    rcases hR with ⟨rfl, hl⟩ | ⟨A, n, c, rfl, hR⟩
    · rw [hl]
      go_enter Try.func9, Try.ntmps9
      go_wp2_with (first | (go_at_call 28; (with_reducible refine (asked_any _ b gs G HG.out HI.out k).mono ?_); rintro e wq ⟨rfl, hwq⟩; replace hwq := hwq.symm; subst hwq; rw [hz.out]))
      go_ret
      exact ⟨rfl, rfl⟩
    · rw [hR.len]
      have q1 := as_row'
      go_enter Try.func9, Try.ntmps9
      go_wp2_with (first | (go_at_call 28; (with_reducible refine (asked_any _ b gs G HG.out HI.out k).mono ?_); rintro e wq ⟨rfl, hwq⟩; replace hwq := hwq.symm; subst hwq; rw [hz.out]))
      go_ret
      exact ⟨rfl, rfl⟩
  · have hz : Hid (askE G.C x = 9) := Lib.hid (askE_no hx)
    have hv : waiF G x = 0 := by unfold waiF; rw [decide_eq_false hx]; rfl
    rw [hv]
    clear h hI hv hx
    go_enter Try.func9, Try.ntmps9
    go_wp2_with (first | (go_at_call 28; (with_reducible refine (asked_any _ b gs G HG.out HI.out x).mono ?_); rintro e wq ⟨rfl, hwq⟩; replace hwq := hwq.symm; subst hwq; rw [hz.out]))
    go_ret
    exact ⟨rfl, rfl⟩

theorem wanted_any (w : World) (b : Nat) (gs : List Nat) (G : Gr) (h : GrAt w b gs G) (hI : Inv G) (x : Int) : Calls Try.prog 20 #[.pointer (some ⟨b, 0, none⟩), .int .i64 x] w fun e w' =>
    e = .returned (.bool (wanF G x)) ∧ w' = w := by
  have HG := Lib.hid h
  have HI := Lib.hid hI
  by_cases hx : 0 ≤ x ∧ x < G.C
  · have hz : Hid (askE G.C x = 0) := Lib.hid (askE_yes hx)
    obtain ⟨k, rfl⟩ := Int.eq_ofNat_of_zero_le hx.1
    have hk8 : k < 8 := by have := hI.c2; omega
    have hv : wanF G k = (G.go && G.N k) := by unfold wanF; rw [decide_eq_true hx]; simp
    have c1 := h.going
    have c2 := h.needs hk8
    rw [hv]
    have k0 : (0 : Int) ≤ (k : Int) := by omega
    have k1 : (k : Int) < 8 := by omega
    obtain ⟨q, hq⟩ : ∃ q, G.go = q := ⟨_, rfl⟩
    obtain ⟨n, hn⟩ : ∃ n, G.N k = n := ⟨_, rfl⟩
    rw [hq] at c1 ⊢
    rw [hn] at c2 ⊢
    clear h hI hv hx hq hn
    cases q <;> cases n
    all_goals
      go_enter Try.func20, Try.ntmps20
      go_wp2_with (first | (go_at_call 28; (with_reducible refine (asked_any _ b gs G HG.out HI.out k).mono ?_); rintro e wq ⟨rfl, hwq⟩; replace hwq := hwq.symm; subst hwq; rw [hz.out]))
      go_ret
      exact ⟨rfl, rfl⟩
  · have hz : Hid (askE G.C x = 9) := Lib.hid (askE_no hx)
    have hv : wanF G x = false := by unfold wanF; rw [decide_eq_false hx]; rfl
    rw [hv]
    clear h hI hv hx
    go_enter Try.func20, Try.ntmps20
    go_wp2_with (first | (go_at_call 28; (with_reducible refine (asked_any _ b gs G HG.out HI.out x).mono ?_); rintro e wq ⟨rfl, hwq⟩; replace hwq := hwq.symm; subst hwq; rw [hz.out]))
    go_ret
    exact ⟨rfl, rfl⟩

end Go.Proofs.Ytodaknidbdicdaa
