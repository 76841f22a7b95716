/-
  The walk of works: the chapter's counters.
-/
import Derived.Test.YtnbeofbkfopehaaWalkG
import Derived.WalkKit
import Derived.Deep.DeepMust
import Derived.WalkSpells
import Derived.WalkLawsBesides
import Derived.Handy
import Derived.Lib.Hide
import Derived.Deep.QuietTactic
import Derived.BigQuiet
namespace Go.Proofs.Ytnbeofbkfopehaa
open Go.RowKit

theorem Row.of_blk {w : World} {g : Nat} {t : TypeId} {cs : Array Value} (h : Blk w g t cs) {xs : List Value} (e : cs.toList = xs) : Row w (some ⟨g, 0, none⟩) xs := fun _ =>
  ⟨g, 0, rfl, h.lt, fun j u hu => by rw [Nat.zero_add, h.cell, ← Array.getElem?_toList, e]; exact hu⟩

set_option maxRecDepth 100000 in
set_option maxHeartbeats 4000000 in
theorem works_any (w : World) : Calls Try.prog 15 #[] w fun e w' => e = .returned (.bool true) ∧ Below w.heap.size w w' := by
  have F1 : Hid (Fine zeroU (upd mostU 0 100)) := Lib.hid (fine_new.limit (by decide) (by decide))
  have E1 : Hid (fullF zeroU (upd mostU 0 100) 60 [3, 2, 1] = 0) := Lib.hid (by decide)
  have F2 : Hid (Fine (addP zeroU [3, 2, 1] 60) (upd mostU 0 100)) := Lib.hid (F1.out.try (by decide) E1.out)
  have A1 : Hid ((addP zeroU [3, 2, 1] 60) 1 = 60) := Lib.hid (by decide)
  have E2 : Hid (fullF (addP zeroU [3, 2, 1] 60) (upd mostU 0 100) 41 [2, 1] = 1) := Lib.hid (by decide)
  have E3 : Hid (lowB (addP zeroU [3, 2, 1] 60) 61 [3, 1] = false) := Lib.hid (by decide)
  have E4 : Hid (lowB (addP zeroU [3, 2, 1] 60) 60 [3, 1] = true) := Lib.hid (by decide)
  have F3 : Hid (Fine (addP (addP zeroU [3, 2, 1] 60) [3, 1] (-60)) (upd mostU 0 100)) := Lib.hid (F2.out.back (by decide) E4.out)
  have A2 : Hid ((addP (addP zeroU [3, 2, 1] 60) [3, 1] (-60)) 0 = 0) := Lib.hid (by decide)
  have A3 : Hid ((addP (addP zeroU [3, 2, 1] 60) [3, 1] (-60)) 1 = 60) := Lib.hid (by decide)
  have A4 : Hid ((addP (addP zeroU [3, 2, 1] 60) [3, 1] (-60)) 1 < 61) := Lib.hid (by decide)
  go_enter Try.func15, Try.ntmps15
  go_wp2_with (first | (go_at_call 8; (with_reducible refine (new_any _).mono ?_); rintro r w1 ⟨b, rfl, hC, hb, hB⟩; have hl := hC.lt) | (go_at_call 10; (with_reducible refine (limit_ok _ b zeroU mostU hC 1 100 0 (by omega) (by decide) (Lib.hid (by decide))).mono ?_); rintro r w3 ⟨rfl, hN, hT⟩; replace hB := hT.below hB hb hB.size; clear hT hC; have hC := hN; clear hN; have hl := hC.lt) | (go_at_call 11; (with_reducible refine (try_y _ b zeroU (upd mostU 0 100) (hC.alloc _) F1.out [3, 2, 1] 3 (Lib.hid rfl) 60 _ 3 (Row.of_blk (Blk.new _ 3 #[.int .i64 3, .int .i64 2, .int .i64 1]) rfl) (fun g off e => by injection e with e; injection e with e; omega) (Lib.hid (by decide)) E1).mono ?_); rintro r w3 ⟨rfl, hN, hT⟩; replace hB := hT.below (hB.alloc hB.size _) hb (Nat.le_trans hB.size (by simp)); clear hT hC; have hC := hN; clear hN; have hl := hC.lt) | (go_at_call 14; with_reducible refine (used_ok _ b (addP zeroU [3, 2, 1] 60) (upd mostU 0 100) hC 2 1 (by omega) (by decide) 60 A1.out).mono ?_; rintro r w0 ⟨rfl, hw0⟩; replace hw0 := hw0.symm; subst hw0) | (go_at_call 11; (with_reducible refine (try_n _ b (addP zeroU [3, 2, 1] 60) (upd mostU 0 100) (hC.alloc _) F2.out [2, 1] 2 (Lib.hid rfl) 41 _ 2 (Row.of_blk (Blk.new _ 3 #[.int .i64 2, .int .i64 1]) rfl) (fun g off e => by injection e with e; injection e with e; omega) (Lib.hid (by decide)) 1 E2 (by decide)).mono ?_); rintro r w3 ⟨rfl, hN, hT⟩; replace hB := hT.below (hB.alloc hB.size _) hb (Nat.le_trans hB.size (by simp)); clear hT hC; have hC := hN; clear hN; have hl := hC.lt) | (go_at_call 13; (with_reducible refine (back_n _ b (addP zeroU [3, 2, 1] 60) (upd mostU 0 100) (hC.alloc _) F2.out [3, 1] 2 (Lib.hid rfl) 61 _ 2 (Row.of_blk (Blk.new _ 3 #[.int .i64 3, .int .i64 1]) rfl) (fun g off e => by injection e with e; injection e with e; omega) (Lib.hid (by decide)) E3).mono ?_); rintro r w3 ⟨rfl, hb3⟩; replace hB := (hB.alloc hB.size _).trans (hb3.mono (Nat.le_trans hB.size (by simp))); replace hC := (hC.alloc _).below hb3; have hl := hC.lt) | (go_at_call 13; (with_reducible refine (back_y _ b (addP zeroU [3, 2, 1] 60) (upd mostU 0 100) (hC.alloc _) F2.out [3, 1] 2 (Lib.hid rfl) 60 _ 2 (Row.of_blk (Blk.new _ 3 #[.int .i64 3, .int .i64 1]) rfl) (fun g off e => by injection e with e; injection e with e; omega) (Lib.hid (by decide)) E4).mono ?_); rintro r w3 ⟨rfl, hN, hT⟩; replace hB := hT.below (hB.alloc hB.size _) hb (Nat.le_trans hB.size (by simp)); clear hT hC; have hC := hN; clear hN; have hl := hC.lt) | (go_at_call 14; with_reducible refine (used_ok _ b (addP (addP zeroU [3, 2, 1] 60) [3, 1] (-60)) (upd mostU 0 100) hC 1 0 (by omega) (by decide) 0 A2.out).mono ?_; rintro r w0 ⟨rfl, hw0⟩; replace hw0 := hw0.symm; subst hw0) | (go_at_call 14; with_reducible refine (used_ok _ b (addP (addP zeroU [3, 2, 1] 60) [3, 1] (-60)) (upd mostU 0 100) hC 2 1 (by omega) (by decide) 60 A3.out).mono ?_; rintro r w0 ⟨rfl, hw0⟩; replace hw0 := hw0.symm; subst hw0) | (go_at_call 11; (with_reducible refine (try_err _ b (addP (addP zeroU [3, 2, 1] 60) [3, 1] (-60)) (upd mostU 0 100) (hC.alloc _) [1, 1] 2 (Lib.hid rfl) (by omega) 1 _ 2 (Row.of_blk (Blk.new _ 3 #[.int .i64 1, .int .i64 1]) rfl) 2 (Lib.hid (by decide)) (by decide)).mono ?_); rintro r w3 ⟨rfl, hb3⟩; replace hB := (hB.alloc hB.size _).trans (hb3.mono (Nat.le_trans hB.size (by simp))); replace hC := (hC.alloc _).below hb3; have hl := hC.lt) | (go_at_call 21; (with_reducible refine (up_err _ b (addP (addP zeroU [3, 2, 1] 60) [3, 1] (-60)) (upd mostU 0 100) hC 17 1 110 (Lib.hid (by decide)) (by decide)).mono ?_); rintro r w3 ⟨rfl, hb3⟩; replace hB := hB.trans (hb3.mono hB.size); replace hC := hC.below hb3; have hl := hC.lt) | (go_at_call 21; (with_reducible refine (up_err _ b (addP (addP zeroU [3, 2, 1] 60) [3, 1] (-60)) (upd mostU 0 100) hC 1 (-1) 2 (Lib.hid (by decide)) (by decide)).mono ?_); rintro r w3 ⟨rfl, hb3⟩; replace hB := hB.trans (hb3.mono hB.size); replace hC := hC.below hb3; have hl := hC.lt) | (go_at_call 22; (with_reducible refine (down_no _ b (addP (addP zeroU [3, 2, 1] 60) [3, 1] (-60)) (upd mostU 0 100) hC F3.out 2 61 1 (by omega) (by decide) (Lib.hid (by decide)) A4.out).mono ?_); rintro r w3 ⟨rfl, hb3⟩; replace hB := hB.trans (hb3.mono hB.size); replace hC := hC.below hb3; have hl := hC.lt))
  go_ret
  exact ⟨rfl, hB⟩

end Go.Proofs.Ytnbeofbkfopehaa
