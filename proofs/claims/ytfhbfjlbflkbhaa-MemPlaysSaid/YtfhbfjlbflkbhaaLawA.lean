/-
  The walk of works: the chapter's examples.
-/
import Derived.Test.YtfhbfjlbflkbhaaZ
import Derived.Test.YtfhbfjlbflkbhaaEqWs
import Derived.WalkKit
import Derived.Deep.DeepMust
import Derived.WalkSpells
import Derived.WalkLawsBesides
import Derived.Handy
import Derived.Lib.Hide
import Derived.Deep.QuietTactic
import Derived.BigQuiet
namespace Go.Proofs.Ytfhbfjlbflkbhaa
open Go.RowKit

theorem new_z (n : Nat) (z : Int) (ez : (n : Int) = z) (h1 : 1 ≤ n) (h2 : n ≤ 4096) (ws : List Nat) (hw : List.replicate n 0 = ws) (w : World) : Calls Try.prog 10 #[.int .i64 z] w fun e w' =>
    ∃ b g, e = .returned (.tuple #[.pointer (some ⟨b, 0, none⟩), .int .i64 0]) ∧ MemAt 52 w' b g ws 0 ∧ w.heap.size ≤ b ∧ w.heap.size ≤ g ∧ Below w.heap.size w w' := by
  subst ez hw
  exact new_ok n h1 h2 w

set_option maxRecDepth 100000 in
set_option maxHeartbeats 2000000 in
theorem works_any (w : World) : Calls Try.prog 8 #[] w fun e w' => e = .returned (.bool true) ∧ Below w.heap.size w w' := by
  have hl2 : ∀ a b : Nat, Hid (List.length [a, b] = 2) := fun _ _ => Lib.hid rfl
  go_enter Try.func8, Try.ntmps8
  go_wp2_with (first | (go_at_call 10; with_reducible refine (new_z 2 2 rfl (by omega) (by omega) [0, 0] rfl _).mono ?_; rintro e w1 ⟨b, g, rfl, hM, hb, hg, hB⟩) | (go_at_call 13; with_reducible refine (store_z _ b g [0, 0] 0 2 hM (hl2 _ _) (by omega) (by omega) 1 5 5 rfl [0, 5] 0 1 rfl rfl rfl).mono ?_; rintro e w1 ⟨rfl, hN, hT⟩; replace hB := hT.below hB hb hg hB.size; clear hT hM; have hM := hN; clear hN) | (go_at_call 15; with_reducible refine (cas_z _ b g [0, 5] 1 2 hM (hl2 _ _) (by omega) (by omega) 1 5 6 5 6 rfl rfl [0, 6] true 0 2 rfl rfl rfl rfl).mono ?_; rintro e w1 ⟨rfl, hN, hT⟩; replace hB := hT.below hB hb hg hB.size; clear hT hM; have hM := hN; clear hN) | (go_at_call 15; with_reducible refine (cas_z _ b g [0, 6] 2 2 hM (hl2 _ _) (by omega) (by omega) 1 5 7 5 7 rfl rfl [0, 6] false 0 3 rfl rfl rfl rfl).mono ?_; rintro e w1 ⟨rfl, hN, hT⟩; replace hB := hT.below hB hb hg hB.size; clear hT hM; have hM := hN; clear hN) | (go_at_call 12; with_reducible refine (load_z _ b g [0, 6] 3 2 hM (hl2 _ _) (by omega) (by omega) 1 6 0 4 rfl rfl rfl).mono ?_; rintro e w1 ⟨rfl, hN, hT⟩; replace hB := hT.below hB hb hg hB.size; clear hT hM; have hM := hN; clear hN) | (go_at_call 11; with_reducible refine (add_z _ b g [0, 6] 4 2 hM (hl2 _ _) (by omega) (by omega) 1 3 3 rfl [0, 9] 6 0 5 rfl rfl rfl rfl).mono ?_; rintro e w1 ⟨rfl, hN, hT⟩; replace hB := hT.below hB hb hg hB.size; clear hT hM; have hM := hN; clear hN) | (go_at_call 14; with_reducible refine (cas2_z _ b g [0, 9] 5 2 hM (hl2 _ _) (by omega) (by omega) 0 0 9 1 1 0 9 1 1 rfl rfl rfl rfl [1, 1] true 0 6 rfl rfl rfl rfl).mono ?_; rintro e w1 ⟨rfl, hN, hT⟩; replace hB := hT.below hB hb hg hB.size; clear hT hM; have hM := hN; clear hN) | (go_at_call 14; with_reducible refine (cas2_z _ b g [1, 1] 6 2 hM (hl2 _ _) (by omega) (by omega) 1 1 0 1 1 1 0 1 1 rfl rfl rfl rfl [1, 1] false 9 6 rfl rfl rfl rfl).mono ?_; rintro e w1 ⟨rfl, hN, hT⟩; replace hB := hT.below hB hb hg hB.size; clear hT hM; have hM := hN; clear hN) | (go_at_call 22; with_reducible refine (words_any _ b g [1, 1] 6 2 hM (hl2 _ _) (by omega)).mono ?_; rintro e w9 ⟨v9, rfl, ho9, hb9⟩; replace hM := (hM.below hb9).alloc (.cells #[.int .u64 1, .int .u64 1] 29); obtain ⟨A9, c9, rfl, hr9⟩ := Row.slice ho9; have hr9 := hr9.alloc (.cells #[.int .u64 1, .int .u64 1] 29)) | (go_at_call 21; with_reducible refine (eqWs [1, 1] [1, 1] 2 2 true rfl rfl (by omega) (by omega) rfl _ _ _ _ _ hr9 (Row.of_blk (Blk.new w9 29 _) rfl)).mono ?_; rintro e w10 ⟨rfl, hb10⟩; replace hM := hM.below hb10) | (go_at_call 18; with_reducible refine (count_any _ b g [1, 1] 6 hM).mono ?_; rintro e w0 ⟨rfl, hw0⟩; replace hw0 := hw0.symm; subst hw0))
  go_ret
  have z1 := hB.size
  have z2 := hb9.size
  exact ⟨rfl, by (repeat' (first | (with_reducible exact Below.refl _ _) | (with_reducible assumption) | (with_reducible refine Below.alloc ?_ ?_ _) | (with_reducible refine below_drewN ?_ _) | (with_reducible refine Below.drew ?_) | (with_reducible refine Below.setCell ?_ ?_ _) | (with_reducible refine below_two ?_ (by with_reducible assumption)) | go_size))⟩

end Go.Proofs.Ytfhbfjlbflkbhaa
