/-
  The walk of works: the chapter's rows.
-/
import Derived.Test.YthfnnlcfakkabaaWalkH
import Derived.Lib.MinMax
import Derived.WalkKit
import Derived.Deep.DeepMust
import Derived.WalkSpells
import Derived.WalkLawsBesides
import Derived.Handy
import Derived.Lib.Hide
import Derived.Deep.QuietTactic
import Derived.BigQuiet
namespace Go.Proofs.Ythfnnlcfakkabaa
open Go.RowKit

theorem Row.of_blk {w : World} {g : Nat} {t : TypeId} {cs : Array Value} (h : Blk w g t cs) {xs : List Value} (e : cs.toList = xs) : Row w (some ⟨g, 0, none⟩) xs := fun _ =>
  ⟨g, 0, rfl, h.lt, fun j u hu => by rw [Nat.zero_add, h.cell, ← Array.getElem?_toList, e]; exact hu⟩
theorem eqI (xs ys : List Int) (n m : Nat) (r : Bool) (hn : xs.length = n) (hm : ys.length = m) (hn' : n ≤ 9223372036854775807) (hm' : m ≤ 9223372036854775807) (hr : decide (xs = ys) = r) (A B : Option Addr) (c d : Nat) (w : World)
    (hA : Row w A (intsV xs)) (hB : Row w B (intsV ys)) : Calls Try.prog 20 #[.slice A n c, .slice B m d] w fun e w' => e = .returned (.bool r) ∧ Below w.heap.size w w' := by
  subst hn hm hr
  exact eqInts_any xs ys A B c d w hn' hm' hA hB

set_option maxRecDepth 100000 in
set_option maxHeartbeats 2000000 in
theorem works_any (w : World) : Calls Try.prog 17 #[] w fun e w' => e = .returned (.bool true) ∧ Below w.heap.size w w' := by
  have h1 : ∀ x : Wt, Hid (List.length [x] = 1) := fun _ => Lib.hid rfl
  have h3 : ∀ x y z : Wt, Hid (List.length [x, y, z] = 3) := fun _ _ _ => Lib.hid rfl
  have a1 : Hid (addF [⟨5, 1⟩] ⟨6, 1⟩ = ([⟨5, 1⟩, ⟨6, 1⟩], 0)) := Lib.hid (by decide)
  have a2 : Hid (addF [⟨5, 2⟩] ⟨6, 1⟩ = ([], 2)) := Lib.hid (by decide)
  have a3 : Hid (errC [⟨5, 1⟩, ⟨6, 1⟩, ⟨7, 2⟩] = 0) := Lib.hid (by decide)
  have a4 : Hid (cutN 1 [⟨5, 1⟩, ⟨6, 1⟩, ⟨7, 2⟩] = 2) := Lib.hid (by decide)
  have a5 : Hid (nextF [⟨7, 2⟩] = 2) := Lib.hid (by decide)
  go_enter Try.func17, Try.ntmps17
  go_wp2_with (first | (go_at_call 10; (with_reducible refine (add_any [⟨5, 1⟩] 6 1 _ 1 1 _ (h1 _) (by omega) (Row.of_blk (Blk.new w 24 #[.int .i64 5, .int .i64 1]) rfl) _ _ a1.out).mono ?_); rintro e w1 ⟨v1, rfl, ho1, hb1⟩; have ho1' : w1.ownsRow _ 24 2 v1 2 (rowV [⟨5, 1⟩, ⟨6, 1⟩]) := ho1; obtain ⟨A1, c1, rfl, -, hr1⟩ := WRow.slice ho1'; obtain ⟨g1, o1, rfl, hl1, hc1⟩ := hr1 (by decide); have k1 : w1.cell? ⟨g1, o1 + 2, none⟩ = some (.int .i64 6) := hc1 2 _ rfl; clear ho1 ho1' hc1; have K1 := Lib.hid k1; have z1 := hb1.size; rw [World.size_alloc] at z1) | (go_at_call 10; (with_reducible refine (add_any [⟨5, 2⟩] 6 1 _ 1 1 _ (h1 _) (by omega) (Row.of_blk (Blk.new w1 24 #[.int .i64 5, .int .i64 2]) rfl) _ _ a2.out).mono ?_); rintro e w2 ⟨v2, rfl, ho2, hb2⟩; have k2 := cell_below hb2 (cell_alloc K1.out); clear ho2 k1; have K2 := Lib.hid k2; have z2 := hb2.size; rw [World.size_alloc] at z2) | (go_at_call 18; (with_reducible refine (ready_any [⟨5, 1⟩, ⟨6, 1⟩, ⟨7, 2⟩] 1 _ 3 3 _ (h3 _ _ _) (Row.of_blk (Blk.new w2 24 #[.int .i64 5, .int .i64 1, .int .i64 6, .int .i64 1, .int .i64 7, .int .i64 2]) rfl) a3 2 a4.out).mono ?_); rintro e w3 ⟨v3, A3, c3, rfl, ho3, hR3, -, hb3⟩; obtain ⟨A5, c5, rfl, hr5⟩ := Row.slice ho3; obtain ⟨g3, o3, rfl, -, hl3, -, hc3⟩ := hR3 (by decide); have k3 := cell_below hb3 (cell_alloc K2.out); have m3 : w3.cell? ⟨g3, o3, none⟩ = some (.int .i64 7) := hc3 0 _ rfl; have hr3 : WRow w3 (some ⟨g3, o3, none⟩) [⟨7, 2⟩] := hR3.row; clear ho3 k2 hR3 hc3; have K3 := Lib.hid k3; have M3 := Lib.hid m3; have hr5' := hr5.alloc (.cells #[.int .i64 5, .int .i64 6] 3); have z3 := hb3.size; rw [World.size_alloc] at z3) | (go_at_call 20; (with_reducible refine (eqI [5, 6] [5, 6] 2 2 true rfl rfl (by omega) (by omega) rfl _ _ _ _ _ hr5' (Row.of_blk (Blk.new w3 3 #[.int .i64 5, .int .i64 6]) rfl)).mono ?_); rintro e w4 ⟨rfl, hb4⟩; have m4 := cell_below hb4 (cell_alloc M3.out); have hr4 := (hr3.alloc (.cells #[.int .i64 5, .int .i64 6] 3)).below hb4; clear k3 m3; have z4 := hb4.size; rw [World.size_alloc] at z4) | (go_at_call 14; (with_reducible refine (next_any [⟨7, 2⟩] _ 1 _ _ (h1 _) (by omega) hr4 2 a5.out).mono ?_); rintro e w5 ⟨rfl, hb5⟩))
  go_ret
  exact ⟨rfl, by (repeat' (first | (with_reducible exact Below.refl _ _) | (with_reducible assumption) | (with_reducible refine Below.alloc ?_ ?_ _) | (with_reducible refine below_drewN ?_ _) | (with_reducible refine Below.drew ?_) | (with_reducible refine Below.setCell ?_ ?_ _) | (with_reducible refine below_two ?_ (by with_reducible assumption)) | go_size))⟩

end Go.Proofs.Ythfnnlcfakkabaa
