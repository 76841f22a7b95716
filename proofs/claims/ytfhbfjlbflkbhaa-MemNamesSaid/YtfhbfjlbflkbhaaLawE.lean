/-
  The walk of step.
-/
import Derived.Test.YtfhbfjlbflkbhaaLawD
import Derived.Deep.RegionHeld3
import Derived.WalkKit
import Derived.Deep.DeepMust
import Derived.WalkSpells
import Derived.WalkLawsBesides
import Derived.Handy
import Derived.Lib.Hide
import Derived.Deep.QuietTactic
import Derived.BigQuiet
namespace Go.Proofs.Ytfhbfjlbflkbhaa
open Go.RowKit

/-- Behind a step: both memories hold the same words again. -/
def StepPost (W : World) (b g b' g' n cnt : Nat) (e : Ending) (w' : World) : Prop :=
  e = .returned (.bool true) ∧ ∃ ws' cnt', Hid (ws'.length = n) ∧ cnt' ≤ cnt + 1 ∧ MemAt 52 w' b g ws' cnt' ∧ MemAt 58 w' b' g' ws' cnt' ∧ Below W.heap.size W w'

set_option maxRecDepth 100000 in
set_option maxHeartbeats 4000000 in
theorem step_0 (W w : World) (b g b' g' n cnt : Nat) (ws : List Nat) (K P : Int) (a2 a3 a4 a5 : Nat) (hK : Hid (K % 6 = (0 : Nat))) (hM : MemAt 52 w b g ws cnt) (hM' : MemAt 58 w b' g' ws cnt) (hn : Hid (ws.length = n)) (hn' : n ≤ 4096) (hc : cnt ≤ 1000)
    (n1 : b' ≠ b) (n2 : b' ≠ g) (n3 : g' ≠ b) (n4 : g' ≠ g) (hB : Below W.heap.size W w) (hb : W.heap.size ≤ b) (hg : W.heap.size ≤ g) (hb' : W.heap.size ≤ b') (hg' : W.heap.size ≤ g') :
    Calls Try.prog 17 #[.pointer (some ⟨b, 0, none⟩), .pointer (some ⟨b', 0, none⟩), .agg #[.int .i64 K, .int .i64 P, .int .u64 (a2 : Int), .int .u64 (a3 : Int), .int .u64 (a4 : Int), .int .u64 (a5 : Int)]] w (StepPost W b g b' g' n cnt) := by
  have hXb : w.heap.size ≠ b := by have := hM.head.lt; omega
  have hXg : w.heap.size ≠ g := by have := hM.row.lt; omega
  have hXb' : w.heap.size ≠ b' := by have := hM'.head.lt; omega
  have hXg' : w.heap.size ≠ g' := by have := hM'.row.lt; omega
  have l1 := cnA_le n 1 P
  have l2 := cnA_le n 2 P
  have hX := Blk.new w 41 #[.int .i64 K, .int .i64 P, .int .u64 (a2 : Int), .int .u64 (a3 : Int), .int .u64 (a4 : Int), .int .u64 (a5 : Int)]
  have hB := hB.alloc hB.size (.cells #[.int .i64 K, .int .i64 P, .int .u64 (a2 : Int), .int .u64 (a3 : Int), .int .u64 (a4 : Int), .int .u64 (a5 : Int)] 41)
  have hM := hM.alloc (.cells #[.int .i64 K, .int .i64 P, .int .u64 (a2 : Int), .int .u64 (a3 : Int), .int .u64 (a4 : Int), .int .u64 (a5 : Int)] 41)
  have hM' := hM'.alloc (.cells #[.int .i64 K, .int .i64 P, .int .u64 (a2 : Int), .int .u64 (a3 : Int), .int .u64 (a4 : Int), .int .u64 (a5 : Int)] 41)
  go_enter Try.func17, Try.ntmps17
  go_wp2_with (first | (go_at_call 9; with_reducible refine (bring_n K 6 0 hK.out (by omega) (by omega) _).mono ?_; rintro e w0 ⟨rfl, hw0⟩; replace hw0 := hw0.symm; subst hw0) | (go_at_call 12; with_reducible refine (load_z _ b g ws cnt n hM hn (by omega) (by omega) P _ _ _ rfl rfl rfl).mono ?_; rintro e w4 ⟨rfl, hN, hT⟩; replace hB := hT.below hB hb hg hB.size; replace hX := hX.two hT hXb hXg; replace hM' := hM'.two hT n1 n2 n3 n4; clear hT hM; have hM := hN; clear hN; have hxc := hX.cell) | (go_at_call 30; with_reducible refine (rload_z _ b' g' ws cnt n hM' hn (by omega) (by omega) P _ _ _ rfl rfl rfl).mono ?_; rintro e w5 ⟨rfl, hN, hT⟩; replace hB := hT.below hB hb' hg' hB.size; replace hX := hX.two hT hXb' hXg'; replace hM := hM.two hT n1.symm n3.symm n2.symm n4.symm; clear hT hM'; have hM' := hN; clear hN; have hxc := hX.cell))
  go_ret
  exact ⟨rfl, _, _, hn, by omega, hM, hM', hB⟩

set_option maxRecDepth 100000 in
set_option maxHeartbeats 4000000 in
theorem step_2 (W w : World) (b g b' g' n cnt : Nat) (ws : List Nat) (K P : Int) (a2 a3 a4 a5 : Nat) (hK : Hid (K % 6 = (2 : Nat))) (hM : MemAt 52 w b g ws cnt) (hM' : MemAt 58 w b' g' ws cnt) (hn : Hid (ws.length = n)) (hn' : n ≤ 4096) (hc : cnt ≤ 1000)
    (n1 : b' ≠ b) (n2 : b' ≠ g) (n3 : g' ≠ b) (n4 : g' ≠ g) (hB : Below W.heap.size W w) (hb : W.heap.size ≤ b) (hg : W.heap.size ≤ g) (hb' : W.heap.size ≤ b') (hg' : W.heap.size ≤ g') :
    Calls Try.prog 17 #[.pointer (some ⟨b, 0, none⟩), .pointer (some ⟨b', 0, none⟩), .agg #[.int .i64 K, .int .i64 P, .int .u64 (a2 : Int), .int .u64 (a3 : Int), .int .u64 (a4 : Int), .int .u64 (a5 : Int)]] w (StepPost W b g b' g' n cnt) := by
  have hXb : w.heap.size ≠ b := by have := hM.head.lt; omega
  have hXg : w.heap.size ≠ g := by have := hM.row.lt; omega
  have hXb' : w.heap.size ≠ b' := by have := hM'.head.lt; omega
  have hXg' : w.heap.size ≠ g' := by have := hM'.row.lt; omega
  have l1 := cnA_le n 1 P
  have l2 := cnA_le n 2 P
  have hX := Blk.new w 41 #[.int .i64 K, .int .i64 P, .int .u64 (a2 : Int), .int .u64 (a3 : Int), .int .u64 (a4 : Int), .int .u64 (a5 : Int)]
  have hB := hB.alloc hB.size (.cells #[.int .i64 K, .int .i64 P, .int .u64 (a2 : Int), .int .u64 (a3 : Int), .int .u64 (a4 : Int), .int .u64 (a5 : Int)] 41)
  have hM := hM.alloc (.cells #[.int .i64 K, .int .i64 P, .int .u64 (a2 : Int), .int .u64 (a3 : Int), .int .u64 (a4 : Int), .int .u64 (a5 : Int)] 41)
  have hM' := hM'.alloc (.cells #[.int .i64 K, .int .i64 P, .int .u64 (a2 : Int), .int .u64 (a3 : Int), .int .u64 (a4 : Int), .int .u64 (a5 : Int)] 41)
  go_enter Try.func17, Try.ntmps17
  go_wp2_with (first | (go_at_call 9; with_reducible refine (bring_n K 6 2 hK.out (by omega) (by omega) _).mono ?_; rintro e w0 ⟨rfl, hw0⟩; replace hw0 := hw0.symm; subst hw0) | (go_at_call 15; with_reducible refine (cas_z _ b g ws cnt n hM hn (by omega) (by omega) P a2 a3 _ _ rfl rfl _ _ _ _ rfl rfl rfl rfl).mono ?_; rintro e w4 ⟨rfl, hN, hT⟩; replace hB := hT.below hB hb hg hB.size; replace hX := hX.two hT hXb hXg; replace hM' := hM'.two hT n1 n2 n3 n4; clear hT hM; have hM := hN; clear hN; have hxc := hX.cell) | (go_at_call 32; with_reducible refine (rcas_z _ b' g' ws cnt n hM' hn (by omega) (by omega) P a2 a3 _ _ rfl rfl _ _ _ _ rfl rfl rfl rfl).mono ?_; rintro e w5 ⟨rfl, hN, hT⟩; replace hB := hT.below hB hb' hg' hB.size; replace hX := hX.two hT hXb' hXg'; replace hM := hM.two hT n1.symm n3.symm n2.symm n4.symm; clear hT hM'; have hM' := hN; clear hN; have hxc := hX.cell))
  go_ret
  exact ⟨rfl, _, _, Lib.hid ((cwA_len ws P a2 a3).trans hn.out), by omega, hM, hM', hB⟩

set_option maxRecDepth 100000 in
set_option maxHeartbeats 4000000 in
theorem step_3 (W w : World) (b g b' g' n cnt : Nat) (ws : List Nat) (K P : Int) (a2 a3 a4 a5 : Nat) (hK : Hid (K % 6 = (3 : Nat))) (hM : MemAt 52 w b g ws cnt) (hM' : MemAt 58 w b' g' ws cnt) (hn : Hid (ws.length = n)) (hn' : n ≤ 4096) (hc : cnt ≤ 1000)
    (n1 : b' ≠ b) (n2 : b' ≠ g) (n3 : g' ≠ b) (n4 : g' ≠ g) (hB : Below W.heap.size W w) (hb : W.heap.size ≤ b) (hg : W.heap.size ≤ g) (hb' : W.heap.size ≤ b') (hg' : W.heap.size ≤ g') :
    Calls Try.prog 17 #[.pointer (some ⟨b, 0, none⟩), .pointer (some ⟨b', 0, none⟩), .agg #[.int .i64 K, .int .i64 P, .int .u64 (a2 : Int), .int .u64 (a3 : Int), .int .u64 (a4 : Int), .int .u64 (a5 : Int)]] w (StepPost W b g b' g' n cnt) := by
  have hXb : w.heap.size ≠ b := by have := hM.head.lt; omega
  have hXg : w.heap.size ≠ g := by have := hM.row.lt; omega
  have hXb' : w.heap.size ≠ b' := by have := hM'.head.lt; omega
  have hXg' : w.heap.size ≠ g' := by have := hM'.row.lt; omega
  have l1 := cnA_le n 1 P
  have l2 := cnA_le n 2 P
  have hX := Blk.new w 41 #[.int .i64 K, .int .i64 P, .int .u64 (a2 : Int), .int .u64 (a3 : Int), .int .u64 (a4 : Int), .int .u64 (a5 : Int)]
  have hB := hB.alloc hB.size (.cells #[.int .i64 K, .int .i64 P, .int .u64 (a2 : Int), .int .u64 (a3 : Int), .int .u64 (a4 : Int), .int .u64 (a5 : Int)] 41)
  have hM := hM.alloc (.cells #[.int .i64 K, .int .i64 P, .int .u64 (a2 : Int), .int .u64 (a3 : Int), .int .u64 (a4 : Int), .int .u64 (a5 : Int)] 41)
  have hM' := hM'.alloc (.cells #[.int .i64 K, .int .i64 P, .int .u64 (a2 : Int), .int .u64 (a3 : Int), .int .u64 (a4 : Int), .int .u64 (a5 : Int)] 41)
  go_enter Try.func17, Try.ntmps17
  go_wp2_with (first | (go_at_call 9; with_reducible refine (bring_n K 6 3 hK.out (by omega) (by omega) _).mono ?_; rintro e w0 ⟨rfl, hw0⟩; replace hw0 := hw0.symm; subst hw0) | (go_at_call 14; with_reducible refine (cas2_z _ b g ws cnt n hM hn (by omega) (by omega) P a2 a3 a4 a5 _ _ _ _ rfl rfl rfl rfl _ _ _ _ rfl rfl rfl rfl).mono ?_; rintro e w4 ⟨rfl, hN, hT⟩; replace hB := hT.below hB hb hg hB.size; replace hX := hX.two hT hXb hXg; replace hM' := hM'.two hT n1 n2 n3 n4; clear hT hM; have hM := hN; clear hN; have hxc := hX.cell) | (go_at_call 33; with_reducible refine (rcas2_z _ b' g' ws cnt n hM' hn (by omega) (by omega) P a2 a3 a4 a5 _ _ _ _ rfl rfl rfl rfl _ _ _ _ rfl rfl rfl rfl).mono ?_; rintro e w5 ⟨rfl, hN, hT⟩; replace hB := hT.below hB hb' hg' hB.size; replace hX := hX.two hT hXb' hXg'; replace hM := hM.two hT n1.symm n3.symm n2.symm n4.symm; clear hT hM'; have hM' := hN; clear hN; have hxc := hX.cell))
  go_ret
  exact ⟨rfl, _, _, Lib.hid ((dwA_len ws P a2 a3 a4 a5).trans hn.out), by omega, hM, hM', hB⟩

set_option maxRecDepth 100000 in
set_option maxHeartbeats 4000000 in
theorem step_4 (W w : World) (b g b' g' n cnt : Nat) (ws : List Nat) (K P : Int) (a2 a3 a4 a5 : Nat) (hK : Hid (K % 6 = (4 : Nat))) (hM : MemAt 52 w b g ws cnt) (hM' : MemAt 58 w b' g' ws cnt) (hn : Hid (ws.length = n)) (hn' : n ≤ 4096) (hc : cnt ≤ 1000)
    (n1 : b' ≠ b) (n2 : b' ≠ g) (n3 : g' ≠ b) (n4 : g' ≠ g) (hB : Below W.heap.size W w) (hb : W.heap.size ≤ b) (hg : W.heap.size ≤ g) (hb' : W.heap.size ≤ b') (hg' : W.heap.size ≤ g') :
    Calls Try.prog 17 #[.pointer (some ⟨b, 0, none⟩), .pointer (some ⟨b', 0, none⟩), .agg #[.int .i64 K, .int .i64 P, .int .u64 (a2 : Int), .int .u64 (a3 : Int), .int .u64 (a4 : Int), .int .u64 (a5 : Int)]] w (StepPost W b g b' g' n cnt) := by
  have hXb : w.heap.size ≠ b := by have := hM.head.lt; omega
  have hXg : w.heap.size ≠ g := by have := hM.row.lt; omega
  have hXb' : w.heap.size ≠ b' := by have := hM'.head.lt; omega
  have hXg' : w.heap.size ≠ g' := by have := hM'.row.lt; omega
  have l1 := cnA_le n 1 P
  have l2 := cnA_le n 2 P
  have hX := Blk.new w 41 #[.int .i64 K, .int .i64 P, .int .u64 (a2 : Int), .int .u64 (a3 : Int), .int .u64 (a4 : Int), .int .u64 (a5 : Int)]
  have hB := hB.alloc hB.size (.cells #[.int .i64 K, .int .i64 P, .int .u64 (a2 : Int), .int .u64 (a3 : Int), .int .u64 (a4 : Int), .int .u64 (a5 : Int)] 41)
  have hM := hM.alloc (.cells #[.int .i64 K, .int .i64 P, .int .u64 (a2 : Int), .int .u64 (a3 : Int), .int .u64 (a4 : Int), .int .u64 (a5 : Int)] 41)
  have hM' := hM'.alloc (.cells #[.int .i64 K, .int .i64 P, .int .u64 (a2 : Int), .int .u64 (a3 : Int), .int .u64 (a4 : Int), .int .u64 (a5 : Int)] 41)
  go_enter Try.func17, Try.ntmps17
  go_wp2_with (first | (go_at_call 9; with_reducible refine (bring_n K 6 4 hK.out (by omega) (by omega) _).mono ?_; rintro e w0 ⟨rfl, hw0⟩; replace hw0 := hw0.symm; subst hw0) | (go_at_call 11; with_reducible refine (add_z _ b g ws cnt n hM hn (by omega) (by omega) P a2 _ rfl _ _ _ _ rfl rfl rfl rfl).mono ?_; rintro e w4 ⟨rfl, hN, hT⟩; replace hB := hT.below hB hb hg hB.size; replace hX := hX.two hT hXb hXg; replace hM' := hM'.two hT n1 n2 n3 n4; clear hT hM; have hM := hN; clear hN; have hxc := hX.cell) | (go_at_call 34; with_reducible refine (radd_z _ b' g' ws cnt n hM' hn (by omega) (by omega) P a2 _ rfl _ _ _ _ rfl rfl rfl rfl).mono ?_; rintro e w5 ⟨rfl, hN, hT⟩; replace hB := hT.below hB hb' hg' hB.size; replace hX := hX.two hT hXb' hXg'; replace hM := hM.two hT n1.symm n3.symm n2.symm n4.symm; clear hT hM'; have hM' := hN; clear hN; have hxc := hX.cell))
  go_ret
  exact ⟨rfl, _, _, Lib.hid ((adA_len ws P a2).trans hn.out), by omega, hM, hM', hB⟩

set_option maxRecDepth 100000 in
set_option maxHeartbeats 4000000 in
theorem step_1 (W w : World) (b g b' g' n cnt : Nat) (ws : List Nat) (K P : Int) (a2 a3 a4 a5 : Nat) (hK : Hid (K % 6 = (1 : Nat))) (hM : MemAt 52 w b g ws cnt) (hM' : MemAt 58 w b' g' ws cnt) (hn : Hid (ws.length = n)) (hn' : n ≤ 4096) (hc : cnt ≤ 1000)
    (n1 : b' ≠ b) (n2 : b' ≠ g) (n3 : g' ≠ b) (n4 : g' ≠ g) (hB : Below W.heap.size W w) (hb : W.heap.size ≤ b) (hg : W.heap.size ≤ g) (hb' : W.heap.size ≤ b') (hg' : W.heap.size ≤ g') :
    Calls Try.prog 17 #[.pointer (some ⟨b, 0, none⟩), .pointer (some ⟨b', 0, none⟩), .agg #[.int .i64 K, .int .i64 P, .int .u64 (a2 : Int), .int .u64 (a3 : Int), .int .u64 (a4 : Int), .int .u64 (a5 : Int)]] w (StepPost W b g b' g' n cnt) := by
  have hXb : w.heap.size ≠ b := by have := hM.head.lt; omega
  have hXg : w.heap.size ≠ g := by have := hM.row.lt; omega
  have hXb' : w.heap.size ≠ b' := by have := hM'.head.lt; omega
  have hXg' : w.heap.size ≠ g' := by have := hM'.row.lt; omega
  have l1 := cnA_le n 1 P
  have l2 := cnA_le n 2 P
  have hX := Blk.new w 41 #[.int .i64 K, .int .i64 P, .int .u64 (a2 : Int), .int .u64 (a3 : Int), .int .u64 (a4 : Int), .int .u64 (a5 : Int)]
  have hB := hB.alloc hB.size (.cells #[.int .i64 K, .int .i64 P, .int .u64 (a2 : Int), .int .u64 (a3 : Int), .int .u64 (a4 : Int), .int .u64 (a5 : Int)] 41)
  have hM := hM.alloc (.cells #[.int .i64 K, .int .i64 P, .int .u64 (a2 : Int), .int .u64 (a3 : Int), .int .u64 (a4 : Int), .int .u64 (a5 : Int)] 41)
  have hM' := hM'.alloc (.cells #[.int .i64 K, .int .i64 P, .int .u64 (a2 : Int), .int .u64 (a3 : Int), .int .u64 (a4 : Int), .int .u64 (a5 : Int)] 41)
  go_enter Try.func17, Try.ntmps17
  have hM := hM.drew
  have hM' := hM'.drew
  have hB := hB.drew
  have hX := hX.drew
  go_wp2_with (first | (go_at_call 9; with_reducible refine (bring_n K 6 1 hK.out (by omega) (by omega) _).mono ?_; rintro e w0 ⟨rfl, hw0⟩; replace hw0 := hw0.symm; subst hw0))
  have x1 : (w.alloc (.cells #[.int .i64 K, .int .i64 P, .int .u64 (a2 : Int), .int .u64 (a3 : Int), .int .u64 (a4 : Int), .int .u64 (a5 : Int)] 41)).drew.cell? ⟨w.heap.size, 1, none⟩ = some (.int .i64 P) := hX.cell 1
  have x2 : (w.alloc (.cells #[.int .i64 K, .int .i64 P, .int .u64 (a2 : Int), .int .u64 (a3 : Int), .int .u64 (a4 : Int), .int .u64 (a5 : Int)] 41)).drew.cell? ⟨w.heap.size, 2, none⟩ = some (.int .u64 (a2 : Int)) := hX.cell 2
  go_region_held3 (fun w' => w'.cell? ⟨w.heap.size, 1, none⟩ = some (.int .i64 P) ∧ w'.cell? ⟨w.heap.size, 2, none⟩ = some (.int .u64 (a2 : Int))) (exact ⟨by assumption, by assumption⟩) (first | (go_at_call 13; with_reducible refine (store_z _ b g ws cnt n hM hn (by omega) (by omega) P a2 _ rfl _ _ _ rfl rfl rfl).mono ?_; rintro e w4 ⟨rfl, hN, hT⟩; replace hB := hT.below hB hb hg hB.size; replace hX := hX.two hT hXb hXg; replace hM' := hM'.two hT n1 n2 n3 n4; clear hT hM; have hM := hN; clear hN; have hxc := hX.cell; have y1 := hxc 1; have y2 := hxc 2) | (go_at_call 31; with_reducible refine (rstore_z _ b' g' ws cnt n hM' hn (by omega) (by omega) P a2 _ rfl _ _ _ rfl rfl rfl).mono ?_; rintro e w5 ⟨rfl, hN, hT⟩; replace hB := hT.below hB hb' hg' hB.size; replace hX := hX.two hT hXb' hXg'; replace hM := hM.two hT n1.symm n3.symm n2.symm n4.symm; clear hT hM'; have hM' := hN; clear hN; have hxc := hX.cell; have y1 := hxc 1; have y2 := hxc 2))
  all_goals go_wp2
  all_goals go_ret
  all_goals exact ⟨rfl, _, _, Lib.hid ((stA_len ws P a2).trans hn.out), by omega, hM, hM', hB⟩

set_option maxRecDepth 100000 in
set_option maxHeartbeats 4000000 in
theorem step_5 (W w : World) (b g b' g' n cnt : Nat) (ws : List Nat) (K P : Int) (a2 a3 a4 a5 : Nat) (hK : Hid (K % 6 = (5 : Nat))) (hM : MemAt 52 w b g ws cnt) (hM' : MemAt 58 w b' g' ws cnt) (hn : Hid (ws.length = n)) (hn1 : 1 ≤ n) (hn' : n ≤ 4096) (hB : Below W.heap.size W w) (hb : W.heap.size ≤ b) :
    Calls Try.prog 17 #[.pointer (some ⟨b, 0, none⟩), .pointer (some ⟨b', 0, none⟩), .agg #[.int .i64 K, .int .i64 P, .int .u64 (a2 : Int), .int .u64 (a3 : Int), .int .u64 (a4 : Int), .int .u64 (a5 : Int)]] w (StepPost W b g b' g' n cnt) := by
  have hb2 := hM.head.lt
  have hg2 := hM.row.lt
  have hb2' := hM'.head.lt
  have hg2' := hM'.row.lt
  have hB := hB.alloc hB.size (.cells #[.int .i64 K, .int .i64 P, .int .u64 (a2 : Int), .int .u64 (a3 : Int), .int .u64 (a4 : Int), .int .u64 (a5 : Int)] 41)
  have hM := hM.alloc (.cells #[.int .i64 K, .int .i64 P, .int .u64 (a2 : Int), .int .u64 (a3 : Int), .int .u64 (a4 : Int), .int .u64 (a5 : Int)] 41)
  have hM' := hM'.alloc (.cells #[.int .i64 K, .int .i64 P, .int .u64 (a2 : Int), .int .u64 (a3 : Int), .int .u64 (a4 : Int), .int .u64 (a5 : Int)] 41)
  go_enter Try.func17, Try.ntmps17
  go_wp2_with (first | (go_at_call 9; with_reducible refine (bring_n K 6 5 hK.out (by omega) (by omega) _).mono ?_; rintro e w0 ⟨rfl, hw0⟩; replace hw0 := hw0.symm; subst hw0) | (go_at_call 22; with_reducible refine (words_any _ b g ws cnt n hM hn (by omega)).mono ?_; rintro e w1 ⟨v1, rfl, ho1, hb1⟩; obtain ⟨A1, c1, rfl, hr1⟩ := Row.slice ho1; replace hM := hM.below hb1; replace hM' := hM'.below hb1; replace hB := hB.trans (hb1.mono hB.size); rw [World.size_alloc] at ho1) | (go_at_call 23; with_reducible refine (rwords_any _ b' g' ws cnt n hM' hn (by omega)).mono ?_; rintro e w2 ⟨v2, rfl, ho2, hb2⟩; obtain ⟨A2, c2, rfl, hr2⟩ := Row.slice ho2; replace hM := hM.below hb2; replace hM' := hM'.below hb2; replace hB := hB.trans (hb2.mono hB.size); replace ho1 := own_below ho1 hb2; replace hr1 := hr1.below hb2) | (go_at_call 21; with_reducible refine (eqWs ws ws n n true hn.out hn.out (by omega) (by omega) (decide_eq_true rfl) _ _ _ _ _ hr1 hr2).mono ?_; rintro e w3 ⟨rfl, hb3⟩; replace hM := hM.below hb3; replace hM' := hM'.below hb3; replace hB := hB.trans (hb3.mono hB.size); replace ho1 := own_below ho1 hb3; clear hr1 hr2 ho2))
  obtain ⟨gl, cap, hv, hgb, hgl⟩ := ho1.form (by omega)
  have hA1 : A1 = some ⟨gl, 0, none⟩ := by injection hv
  subst hA1
  clear hv hgl
  have o1 : wordV ws = wordsV (natI ws) := (natI_words ws).symm
  rw [o1] at ho1
  have g1 : b ≠ gl := by omega
  have g2 : g ≠ gl := by omega
  have g3 : b' ≠ gl := by omega
  have g4 : g' ≠ gl := by omega
  have gW : W.heap.size ≤ gl := by omega
  clear o1 hb1 hb2 hb3 hgb
  go_loopw [25] (fun j wr => ∃ (k : Nat) (zs : List Int), k ≤ n ∧ j = .int .i64 k ∧ Hid (wr.ownsRow (w.heap.size + 1) 29 1 (.slice (some ⟨gl, 0, none⟩) n c1) n (wordsV zs)) ∧ MemAt 52 wr b g ws cnt ∧ MemAt 58 wr b' g' ws cnt ∧ Below W.heap.size W wr) (fun j _ => n - (intOf j).toNat)
  case atStart => exact ⟨0, _, by omega, rfl, Lib.hid ho1, hM, hM', hB⟩
  case round =>
    clear hM hM' hB ho1
    obtain ⟨k, zs, hk, rfl, HO, hM, hM', hB⟩ := hrel
    by_cases hlt : k < n
    · have hzl : zs.length = n := by have := HO.out.1; rw [wordsV_len] at this; omega
      have cK : wr.cell? ⟨gl, k, none⟩ = some (.int .u64 zs[k]) := (HO.out.cellAt k (by omega)).trans (wordsV_at (by omega))
      have dK := HO.out.frozenAt k
      obtain ⟨z, hz⟩ : ∃ z, zs[k] = z := ⟨_, rfl⟩
      rw [hz] at cK
      have HN : Hid (∀ e : Int, (wr.setCell ⟨gl, k, none⟩ (.int .u64 e)).ownsRow (w.heap.size + 1) 29 1 (.slice (some ⟨gl, 0, none⟩) n c1) n (wordsV (zs.set k e))) := Lib.hid (fun e => by
        have := (HO.out.stored k (.int .u64 e)).1
        rwa [show (wordsV zs).set k (.int .u64 e) = wordsV (zs.set k e) by simp [wordsV, List.map_set]] at this)
      have k0 : (0 : Int) ≤ (k : Int) := by omega
      have k1 : (k : Int) < (n : Int) := by omega
      clear hz hzl
      go_wp2
      go_roundw
      case rel => exact ⟨k + 1, _, by omega, by go_num, Lib.hid (HN.out _), hM.far (p := ⟨gl, k, none⟩) g1 g2 _, hM'.far (p := ⟨gl, k, none⟩) g3 g4 _, hB.setCell gW _⟩
      case measure => simp [intOf]; omega
    · go_wp2
      go_ret
      exact ⟨rfl, ws, cnt, hn, by omega, hM, hM', hB⟩

theorem step_any (W w : World) (b g b' g' n cnt : Nat) (ws : List Nat) (K P : Int) (a2 a3 a4 a5 : Nat) (hM : MemAt 52 w b g ws cnt) (hM' : MemAt 58 w b' g' ws cnt) (hn : Hid (ws.length = n)) (hn1 : 1 ≤ n) (hn' : n ≤ 4096) (hc : cnt ≤ 1000)
    (n1 : b' ≠ b) (n2 : b' ≠ g) (n3 : g' ≠ b) (n4 : g' ≠ g) (hB : Below W.heap.size W w) (hb : W.heap.size ≤ b) (hg : W.heap.size ≤ g) (hb' : W.heap.size ≤ b') (hg' : W.heap.size ≤ g') :
    Calls Try.prog 17 #[.pointer (some ⟨b, 0, none⟩), .pointer (some ⟨b', 0, none⟩), .agg #[.int .i64 K, .int .i64 P, .int .u64 (a2 : Int), .int .u64 (a3 : Int), .int .u64 (a4 : Int), .int .u64 (a5 : Int)]] w (StepPost W b g b' g' n cnt) := by
  obtain ⟨r, hr⟩ : ∃ r : Nat, K % 6 = (r : Int) := ⟨(K % 6).toNat, by omega⟩
  have hr6 : r < 6 := by omega
  have HR := Lib.hid hr
  obtain rfl | rfl | rfl | rfl | rfl | rfl : r = 0 ∨ r = 1 ∨ r = 2 ∨ r = 3 ∨ r = 4 ∨ r = 5 := by omega
  · exact step_0 W w b g b' g' n cnt ws K P a2 a3 a4 a5 HR hM hM' hn hn' hc n1 n2 n3 n4 hB hb hg hb' hg'
  · exact step_1 W w b g b' g' n cnt ws K P a2 a3 a4 a5 HR hM hM' hn hn' hc n1 n2 n3 n4 hB hb hg hb' hg'
  · exact step_2 W w b g b' g' n cnt ws K P a2 a3 a4 a5 HR hM hM' hn hn' hc n1 n2 n3 n4 hB hb hg hb' hg'
  · exact step_3 W w b g b' g' n cnt ws K P a2 a3 a4 a5 HR hM hM' hn hn' hc n1 n2 n3 n4 hB hb hg hb' hg'
  · exact step_4 W w b g b' g' n cnt ws K P a2 a3 a4 a5 HR hM hM' hn hn' hc n1 n2 n3 n4 hB hb hg hb' hg'
  · exact step_5 W w b g b' g' n cnt ws K P a2 a3 a4 a5 HR hM hM' hn hn1 hn' hB hb

end Go.Proofs.Ytfhbfjlbflkbhaa
