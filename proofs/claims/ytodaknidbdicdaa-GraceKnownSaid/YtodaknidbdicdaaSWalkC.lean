/-
  The walks of Copy, slices.Grow, slices.Concat, row.
-/
import Derived.Test.YtodaknidbdicdaaSWalkB
import Derived.OwnWalk
import Derived.Lib.AppendZeros
import Derived.WalkKit
import Derived.Deep.DeepMust
import Derived.WalkSpells
import Derived.WalkLawsBesides
import Derived.Handy
import Derived.Lib.Hide
import Derived.Deep.QuietTactic
import Derived.BigQuiet
namespace Go.Proofs.Ytodaknidbdicdaa
open Go.RowKit

theorem Try.info24 : (Try.prog.info? 78).map (fun i => (i.zero, i.size, i.bytes)) = some (some (.agg #[.int .i64 0, .int .i64 0]), 2, 16) := by kernel_rfl

/-- What a call hands back in memory of its own: the row l. -/
def Gives (w : World) (l : List Wt) (n : Nat) (e : Ending) (w' : World) : Prop := ∃ v, e = .returned v ∧ w'.ownsRow w.heap.size 78 2 v n (rowV l) ∧ Below w.heap.size w w'

theorem copy_any (l : List Wt) (A : Option Addr) (n c : Nat) (w : World) (hn : Hid (l.length = n)) (hn' : n * 16 ≤ 140737488355328) (hA : WRow w A l) :
    Calls Try.prog 53 #[.slice A n c] w (Gives w l n) := by
  obtain ⟨i0, hi, hz0, hz1, hz2⟩ := info_parts Try.info24
  have I0 := Lib.hid hi
  have I1 := Lib.hid hz0
  have I2 := Lib.hid hz1
  have I3 := Lib.hid hz2
  have HR := Lib.hid (hA.reads hn.out)
  clear hi hz0 hz1 hz2
  go_enter Try.func53, Try.ntmps53
  go_wp2_with (first | (at_builtin; refine wpList_append_any _ rfl _ _ 66 rfl w.heap.size 78 i0 (.agg #[.int .i64 0, .int .i64 0]) 2 16 Try.underlying66 I0.out I1.out I2.out I3.out rfl (by decide) _ _ _ rfl (World.ownsRow_nil _ _ _ _) w.heap.size _ n _ (rowV l) rfl HR.out rowV_one (by unfold maxLen; omega) (by omega) (Nat.le_refl _) ?_; intro v1 w1 ho1 hg1 hq1; clear hq1; have hb1 := below_grown (Below.refl w.heap.size w) hg1 (Nat.le_refl _) (fun g hg => by cases hg); simp only [Nat.zero_add, List.nil_append] at ho1))
  go_ret
  exact ⟨_, rfl, ho1, hb1⟩

theorem grow_zero (w : World) : Calls Try.prog 55 #[.slice none 0 0, .int .i64 0] w fun e w' => e = .returned (.slice none 0 0) ∧ w' = w := by
  go_enter Try.func55, Try.ntmps55
  go_wp2
  go_ret
  exact ⟨rfl, rfl⟩

theorem grow_pos (n : Nat) (hn : 0 < n) (hn' : n * 16 ≤ 140737488355328) (w : World) : Calls Try.prog 55 #[.slice none 0 0, .int .i64 (n : Int)] w fun e w' =>
    ∃ v, e = .returned v ∧ w'.ownsRow w.heap.size 78 2 v 0 [] ∧ Below w.heap.size w w' := by
  obtain ⟨i0, hi, hz0, hz1, hz2⟩ := info_parts Try.info24
  have hrun := Lib.hid (Go.Lib.run_append_nil_zeros (P := Try.prog) w 66 3 66 78 i0 (.agg #[.int .i64 0, .int .i64 0]) .i64 .i64 Try.underlying66 Try.underlying3 hi hz0 n hn (by rw [hz1]; omega) (by omega) (by rw [hz2]; omega))
  have hge := grownCap_ge w n 0 78
  have hle := grownCap_le_maxLen w n 0 78 (by unfold maxLen; omega)
  obtain ⟨C, hC⟩ : ∃ C, grownCap w n 0 78 = C := ⟨_, rfl⟩
  rw [hC] at hrun hge hle
  clear hC hi hz0 hz1 hz2
  have j0 : (0 : Int) < (n : Int) := by omega
  unfold maxLen at hle
  go_enter Try.func55, Try.ntmps55
  go_wp2_with (first | (at_builtin; refine Go.Lib.wpList_append_run _ rfl _ _ _ _ rfl _ _ rfl rfl _ _ hrun.out ?_))
  go_ret
  exact ⟨_, rfl, (World.ownsRow_made w _ C (Nat.le_refl _) (by unfold maxLen; omega) (by simp [size_zeroCells]; omega)).drew, by (repeat' (first | (with_reducible exact Below.refl _ _) | (with_reducible assumption) | (with_reducible refine Below.alloc ?_ ?_ _) | (with_reducible refine below_drewN ?_ _) | (with_reducible refine Below.drew ?_) | (with_reducible refine Below.setCell ?_ ?_ _) | (with_reducible refine below_two ?_ (by with_reducible assumption)) | go_size))⟩

theorem grow_any (n : Nat) (z : Int) (ez : (n : Int) = z) (hn' : n * 16 ≤ 140737488355328) (w : World) : Calls Try.prog 55 #[.slice none 0 0, .int .i64 z] w fun e w' =>
    ∃ v, e = .returned v ∧ w'.ownsRow w.heap.size 78 2 v 0 [] ∧ Below w.heap.size w w' := by
  subst ez
  rcases Nat.eq_zero_or_pos n with h0 | hp
  · subst h0
    exact (grow_zero w).mono fun e w' ⟨he, hw⟩ => ⟨_, he, by rw [hw]; exact World.ownsRow_nil _ _ _ _, by rw [hw]; exact Below.refl _ _⟩
  · exact grow_pos n hp hn' w

set_option maxHeartbeats 2000000 in
theorem concat_any (l m : List Wt) (A B : Option Addr) (n k c d q : Nat) (w : World) (hn : Hid (l.length = n)) (hk : Hid (m.length = k)) (hs : (n + k) * 16 ≤ 140737488355328) (hA : WRow w A l) (hB : WRow w B m)
    (q0 : w.cell? ⟨q, 0, none⟩ = some (.slice A n c)) (q1 : w.cell? ⟨q, 1, none⟩ = some (.slice B k d)) :
    Calls Try.prog 54 #[.slice (some ⟨q, 0, none⟩) 2 2] w (Gives w (l ++ m) (n + k)) := by
  obtain ⟨i0, hi, hz0, hz1, hz2⟩ := info_parts Try.info24
  have I0 := Lib.hid hi
  have I1 := Lib.hid hz0
  have I2 := Lib.hid hz1
  have I3 := Lib.hid hz2
  have HA := Lib.hid hA
  have HB := Lib.hid hB
  have Q0 := Lib.hid q0
  have Q1 := Lib.hid q1
  clear hi hz0 hz1 hz2 hA hB
  go_enter Try.func54, Try.ntmps54
  go_wp2
  refine wp_loop_rounds 3 ?_
  rw [rounds_succ]
  go_wp2_with fail
  rw [rounds_succ]
  go_wp2_with fail
  rw [rounds_succ]
  go_wp2_with (first | (go_at_call 55; with_reducible refine (grow_any (n + k) _ (by omega) hs _).mono ?_; rintro e w1 ⟨v1, rfl, ho1, hb1⟩))
  have z1 := hb1.size
  have q0' := cell_below hb1 Q0.out
  have q1' := cell_below hb1 Q1.out
  have R1 := Lib.hid (WRow.reads (HA.out.below hb1) hn.out)
  have O1 := Lib.hid ho1
  clear q0 q1 ho1
  refine wp_loop_rounds 3 ?_
  rw [rounds_succ]
  go_wp2_with (first | (at_builtin; refine wpList_append_any _ rfl _ _ 66 rfl w.heap.size 78 i0 (.agg #[.int .i64 0, .int .i64 0]) 2 16 Try.underlying66 I0.out I1.out I2.out I3.out rfl (by decide) _ 0 [] rfl O1.out _ _ n _ (rowV l) rfl R1.out rowV_one (by unfold maxLen; omega) (by omega) (by omega) ?_; intro v2 w2 ho2 hg hq; clear hq))
  have hb2 := below_grown' hb1 hg O1.out z1 (Nat.le_refl _)
  have z2 := hb2.size
  have q1'' := cell_below hb2 Q1.out
  have R2 := Lib.hid (WRow.reads (HB.out.below hb2) hk.out)
  have O2 := Lib.hid ho2
  clear q0' q1' ho2 hg R1
  rw [rounds_succ]
  go_wp2_with (first | (at_builtin; refine wpList_append_any _ rfl _ _ 66 rfl w.heap.size 78 i0 (.agg #[.int .i64 0, .int .i64 0]) 2 16 Try.underlying66 I0.out I1.out I2.out I3.out rfl (by decide) _ (0 + n) ([] ++ rowV l) rfl O2.out _ _ k _ (rowV m) rfl R2.out rowV_one (by unfold maxLen; omega) (by omega) (by omega) ?_; intro v3 w3 ho3 hg hq; clear hq))
  have hb3 := below_grown' hb2 hg O2.out z2 (Nat.le_refl _)
  have O3 := Lib.hid ho3
  clear q1'' ho3 hg R2
  rw [rounds_succ]
  go_wp2_with fail
  go_ret
  exact ⟨_, rfl, by rw [rowV_append]; simpa using O3.out, hb3⟩

end Go.Proofs.Ytodaknidbdicdaa
