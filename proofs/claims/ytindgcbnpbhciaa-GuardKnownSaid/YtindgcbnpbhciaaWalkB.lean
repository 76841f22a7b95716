/-
  The walks of slices.Grow, slices.Concat of three, laid, in, Lay.
-/
import Derived.Test.YtindgcbnpbhciaaWalkA
import Derived.OwnWalk
import Derived.Lib.AppendZeros
import Derived.WalkKit
import Derived.Deep.DeepMust
import Derived.WalkSpells
import Derived.WalkLawsBesides
import Derived.Handy
import Derived.Lib.Hide
import Derived.Deep.QuietTactic
import Derived.BigQuiet
namespace Go.Proofs.Ytindgcbnpbhciaa
open Go.RowKit

theorem Try.infoB : (Try.prog.info? 5).map (fun i => (i.zero, i.size, i.bytes)) = some (some (.int .u8 0), 1, 1) := by kernel_rfl

theorem below_grown {B : Nat} {a w w' : World} {row : Option Nat} (h : Below B a w) (hg : w.grownBy w' row) (hB : B ≤ w.heap.size) (hr : ∀ g, row = some g → B ≤ g) : Below B a w' :=
  h.trans ⟨hg.os, hg.tape, hg.output, hg.size, fun k hk => hg.block k (by omega) (fun e => by have := hr k e.symm; omega)⟩
theorem below_grown' {B : Nat} {a w w' : World} {v : Value} {n : Nat} {e : TypeId} {xs : List Value} {base size : Nat} (h : Below B a w) (hg : w.grownBy w' v.ownBlock) (ho : w.ownsRow base e size v n xs) (hB : B ≤ w.heap.size) (hbase : B ≤ base) : Below B a w' := by
  refine below_grown h hg hB fun g hg' => ?_
  rcases ho.2 with ⟨rfl, _⟩ | ⟨g', cap, cur, rfl, hb, _⟩
  · simp [Value.ownBlock] at hg'
  · simp only [Value.ownBlock, Option.some.injEq] at hg'
    omega

theorem own_le {w : World} {base base' : Nat} {e : TypeId} {size : Nat} {v : Value} {n : Nat} {xs : List Value} (h : w.ownsRow base e size v n xs) (hb : base' ≤ base) : w.ownsRow base' e size v n xs := by
  obtain ⟨h1, h2⟩ := h
  refine ⟨h1, ?_⟩
  rcases h2 with h2 | ⟨g, cap, cur, h3, h4, h5, h6⟩
  · exact Or.inl h2
  · exact Or.inr ⟨g, cap, cur, h3, by omega, h5, h6⟩

theorem grow_pos (n : Nat) (hn : 0 < n) (hn' : n ≤ 140737488355328) (w : World) : Calls Try.prog 30 #[.slice none 0 0, .int .i64 (n : Int)] w fun e w' =>
    ∃ v, e = .returned v ∧ w'.ownsRow w.heap.size 5 1 v 0 [] ∧ Below w.heap.size w w' := by
  obtain ⟨i0, hi, hz0, hz1, hz2⟩ := info_parts Try.infoB
  have hrun := Lib.hid (Go.Lib.run_append_nil_zeros (P := Try.prog) w 22 3 22 5 i0 (.int .u8 0) .u8 .i64 Try.underlying22 Try.underlying3 hi hz0 n hn (by rw [hz1]; omega) (by omega) (by rw [hz2]; omega))
  have hge := grownCap_ge w n 0 5
  have hle := grownCap_le_maxLen w n 0 5 (by unfold maxLen; omega)
  obtain ⟨C, hC⟩ : ∃ C, grownCap w n 0 5 = C := ⟨_, rfl⟩
  rw [hC] at hrun hge hle
  clear hC hi hz0 hz1 hz2
  have j0 : (0 : Int) < (n : Int) := by omega
  unfold maxLen at hle
  go_enter Try.func30, Try.ntmps30
  go_wp2_with (first | (at_builtin; refine Go.Lib.wpList_append_run _ rfl _ _ _ _ rfl _ _ rfl rfl _ _ hrun.out ?_))
  go_ret
  exact ⟨_, rfl, (World.ownsRow_made w _ C (Nat.le_refl _) (by unfold maxLen; omega) (by simp [size_zeroCells]; omega)).drew, by (repeat' (first | (with_reducible exact Below.refl _ _) | (with_reducible assumption) | (with_reducible refine Below.alloc ?_ ?_ _) | (with_reducible refine below_drewN ?_ _) | (with_reducible refine Below.drew ?_) | (with_reducible refine Below.setCell ?_ ?_ _) | (with_reducible refine below_two ?_ (by with_reducible assumption)) | go_size))⟩

theorem grow_any (n : Nat) (h0 : 0 < n) (z : Int) (ez : (n : Int) = z) (hn' : n ≤ 140737488355328) (w : World) : Calls Try.prog 30 #[.slice none 0 0, .int .i64 z] w fun e w' =>
    ∃ v, e = .returned v ∧ w'.ownsRow w.heap.size 5 1 v 0 [] ∧ Below w.heap.size w w' := by
  subst ez
  exact grow_pos n h0 hn' w

/-- What a call hands back as a row of its own. -/
def Owns (w : World) (l : List Int) (n : Nat) (e : Ending) (w' : World) : Prop := ∃ v, e = .returned v ∧ w'.ownsRow w.heap.size 5 1 v n (bV l) ∧ Below w.heap.size w w'

set_option maxHeartbeats 2000000 in
theorem concat_any (l m r : List Int) (A B D : Option Addr) (n k j c d f q : Nat) (w : World) (hn : Hid (l.length = n)) (hk : Hid (m.length = k)) (hj : Hid (r.length = j)) (h0 : 0 < n) (hs : n + (k + j) ≤ 140737488355328) (hA : Row w A (bV l)) (hB : Row w B (bV m)) (hD : Row w D (bV r))
    (q0 : w.cell? ⟨q, 0, none⟩ = some (.slice A n c)) (q1 : w.cell? ⟨q, 1, none⟩ = some (.slice B k d)) (q2 : w.cell? ⟨q, 2, none⟩ = some (.slice D j f)) :
    Calls Try.prog 27 #[.slice (some ⟨q, 0, none⟩) 3 3] w (Owns w (l ++ (m ++ r)) (n + (k + j))) := by
  obtain ⟨i0, hi, hz0, hz1, hz2⟩ := info_parts Try.infoB
  have I0 := Lib.hid hi
  have I1 := Lib.hid hz0
  have I2 := Lib.hid hz1
  have I3 := Lib.hid hz2
  have HA := Lib.hid hA
  have HB := Lib.hid hB
  have HD := Lib.hid hD
  have Q0 := Lib.hid q0
  have Q1 := Lib.hid q1
  have Q2 := Lib.hid q2
  clear hi hz0 hz1 hz2 hA hB hD
  go_enter Try.func27, Try.ntmps27
  go_wp2
  refine wp_loop_rounds 4 ?_
  rw [rounds_succ]
  go_wp2_with fail
  rw [rounds_succ]
  go_wp2_with fail
  rw [rounds_succ]
  go_wp2_with fail
  rw [rounds_succ]
  go_wp2_with (first | (go_at_call 30; (with_reducible refine (grow_any (n + (k + j)) (by omega) _ (by omega) hs _).mono ?_); rintro e w1 ⟨v1, rfl, ho1, hb1⟩))
  have z1 := hb1.size
  have q0' := cell_below hb1 Q0.out
  have q1' := cell_below hb1 Q1.out
  have q2' := cell_below hb1 Q2.out
  have R1 := Lib.hid (Row.reads (HA.out.below hb1) ((bV_len l).trans hn.out))
  have O1 := Lib.hid ho1
  clear q0 q1 q2 ho1
  refine wp_loop_rounds 4 ?_
  rw [rounds_succ]
  go_wp2_with (first | (at_builtin; refine wpList_append_any _ rfl _ _ 22 rfl w.heap.size 5 i0 (.int .u8 0) 1 1 Try.underlying22 I0.out I1.out I2.out I3.out rfl (by decide) _ 0 [] rfl O1.out _ _ n _ (bV l) rfl R1.out (bV_one l) (by unfold maxLen; omega) (by omega) (by omega) ?_; intro v2 w2 ho2 hg hq; clear hq))
  have hb2 := below_grown' hb1 hg O1.out z1 (Nat.le_refl _)
  have z2 := hb2.size
  have q1'' := cell_below hb2 Q1.out
  have q2'' := cell_below hb2 Q2.out
  have R2 := Lib.hid (Row.reads (HB.out.below hb2) ((bV_len m).trans hk.out))
  have O2 := Lib.hid ho2
  clear q0' q1' q2' ho2 hg R1
  rw [rounds_succ]
  go_wp2_with (first | (at_builtin; refine wpList_append_any _ rfl _ _ 22 rfl w.heap.size 5 i0 (.int .u8 0) 1 1 Try.underlying22 I0.out I1.out I2.out I3.out rfl (by decide) _ (0 + n) ([] ++ bV l) rfl O2.out _ _ k _ (bV m) rfl R2.out (bV_one m) (by unfold maxLen; omega) (by omega) (by omega) ?_; intro v3 w3 ho3 hg hq; clear hq))
  have hb3 := below_grown' hb2 hg O2.out z2 (Nat.le_refl _)
  have z3 := hb3.size
  have q2''' := cell_below hb3 Q2.out
  have R3 := Lib.hid (Row.reads (HD.out.below hb3) ((bV_len r).trans hj.out))
  have O3 := Lib.hid ho3
  clear q1'' q2'' ho3 hg R2
  rw [rounds_succ]
  go_wp2_with (first | (at_builtin; refine wpList_append_any _ rfl _ _ 22 rfl w.heap.size 5 i0 (.int .u8 0) 1 1 Try.underlying22 I0.out I1.out I2.out I3.out rfl (by decide) _ (0 + n + k) ([] ++ bV l ++ bV m) rfl O3.out _ _ j _ (bV r) rfl R3.out (bV_one r) (by unfold maxLen; omega) (by omega) (by omega) ?_; intro v4 w4 ho4 hg hq; clear hq))
  have hb4 := below_grown' hb3 hg O3.out z3 (Nat.le_refl _)
  have O4 := Lib.hid ho4
  clear q2''' ho4 hg R3
  rw [rounds_succ]
  go_wp2_with fail
  go_ret
  exact ⟨_, rfl, by have h := O4.out; rw [Nat.zero_add, List.nil_append] at h; unfold bV; rw [List.map_append, List.map_append, ← Nat.add_assoc, ← List.append_assoc]; exact h, hb4⟩

set_option maxHeartbeats 1000000 in
theorem laid_any (n : Nat) (hn : n ≤ 1024) (a o : Int) (w : World) : Calls Try.prog 24 #[.int .i64 (n : Int), .int .u8 a, .int .u8 o] w (Owns w (layL n a o o) (n + 16)) := by
  have L8 : ∀ x : Int, Hid ((List.replicate 8 x).length = 8) := fun x => Lib.hid (List.length_replicate ..)
  have Ln : Hid ((List.replicate n o).length = n) := Lib.hid (List.length_replicate ..)
  have hcat := Lib.hid (layL_cat n a o)
  have c0 : (w.alloc (.cells #[.int .u8 a] 5)).cell? ⟨w.heap.size, 0, none⟩ = some (.int .u8 a) := (Blk.new w 5 #[.int .u8 a]).cell 0
  go_enter Try.func24, Try.ntmps24
  go_wp2_with (first | (go_at_call 26; (with_reducible refine (repeat_any _ w.heap.size 0 1 8 (by omega) a c0 8 (by omega)).mono ?_); rintro e w1 ⟨A1, c1, rfl, hr1, hb1⟩; have z1 := hb1.size; rw [World.size_alloc] at z1; have c2 : (w1.alloc (.cells #[.int .u8 o] 5)).cell? ⟨w1.heap.size, 0, none⟩ = some (.int .u8 o) := (Blk.new w1 5 #[.int .u8 o]).cell 0) | (go_at_call 26; (with_reducible refine (repeat_any _ w1.heap.size 0 1 n hn o c2 (n : Int) rfl).mono ?_); rintro e w2 ⟨A2, c3, rfl, hr2, hb2⟩; have z2 := hb2.size; rw [World.size_alloc] at z2; have hr1' := Lib.hid (((hr1.alloc (.cells #[.int .u8 o] 5)).below hb2).alloc (.cells #[.slice A1 8 c1, .slice A2 n c3, .slice A1 8 c1] 22)); have hr2' := Lib.hid (hr2.alloc (.cells #[.slice A1 8 c1, .slice A2 n c3, .slice A1 8 c1] 22)); have k0 : (w2.alloc (.cells #[.slice A1 8 c1, .slice A2 n c3, .slice A1 8 c1] 22)).cell? ⟨w2.heap.size, 0, none⟩ = some (.slice A1 8 c1) := (Blk.new w2 22 #[.slice A1 8 c1, .slice A2 n c3, .slice A1 8 c1]).cell 0; have k1 : (w2.alloc (.cells #[.slice A1 8 c1, .slice A2 n c3, .slice A1 8 c1] 22)).cell? ⟨w2.heap.size, 1, none⟩ = some (.slice A2 n c3) := (Blk.new w2 22 #[.slice A1 8 c1, .slice A2 n c3, .slice A1 8 c1]).cell 1; have k2 : (w2.alloc (.cells #[.slice A1 8 c1, .slice A2 n c3, .slice A1 8 c1] 22)).cell? ⟨w2.heap.size, 2, none⟩ = some (.slice A1 8 c1) := (Blk.new w2 22 #[.slice A1 8 c1, .slice A2 n c3, .slice A1 8 c1]).cell 2) | (go_at_call 27; (with_reducible refine (concat_any (List.replicate 8 a) (List.replicate n o) (List.replicate 8 a) A1 A2 A1 8 n 8 c1 c3 c1 w2.heap.size _ (L8 a) Ln (L8 a) (by omega) (by omega) hr1'.out hr2'.out hr1'.out k0 k1 k2).mono ?_); rintro e w3 ⟨v3, rfl, ho3, hb3⟩; rw [World.size_alloc] at ho3))
  go_ret
  refine ⟨_, rfl, ?_, by (repeat' (first | (with_reducible exact Below.refl _ _) | (with_reducible assumption) | (with_reducible refine Below.alloc ?_ ?_ _) | (with_reducible refine below_drewN ?_ _) | (with_reducible refine Below.drew ?_) | (with_reducible refine Below.setCell ?_ ?_ _) | (with_reducible refine below_two ?_ (by with_reducible assumption)) | go_size))⟩
  rw [← hcat.out]
  have h8 : 8 + (n + 8) = n + 16 := by omega
  rw [h8] at ho3
  exact own_le ho3 (by omega)

end Go.Proofs.Ytindgcbnpbhciaa
