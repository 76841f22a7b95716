/-
  What the walks of Of (of both texts) want.
-/
import Derived.Test.YtibpaomkaknbhaaWalkB
namespace Go.Proofs.Ytibpaomkaknbhaa
open Go.RowKit

theorem slab_at (s a st off : Int) (k : Nat) (ob wa : Int) (hk : k ≤ 3) (h1 : 1 ≤ st) (h2 : st ≤ 100000) (hob : (slabF ⟨s, a, st, off, 0, 0, 0⟩ k).obj = ob) (hwa : (slabF ⟨s, a, st, off, 0, 0, 0⟩ k).was = wa) (w : World) :
    Calls Try.prog 17 #[.agg #[.int .i64 s, .int .i64 a, .int .i64 st, .int .i64 off, .int .i64 0, .int .i64 0, .int .i64 0], .int .i64 k] w fun e w' =>
      e = .returned (.agg #[.int .i64 s, .int .i64 a, .int .i64 st, .int .i64 off, .int .i64 k, .int .i64 ob, .int .i64 wa]) ∧ Below w.heap.size w w' := by
  refine (slab_any ⟨s, a, st, off, 0, 0, 0⟩ k hk h1 h2 w).mono ?_
  rintro e w' ⟨rfl, hb⟩
  refine ⟨?_, hb⟩
  rw [← hob, ← hwa]
  rfl

theorem up_is' (n m v : Int) (hv : upI n m = v) (hn : 0 ≤ n) (hn' : n ≤ 100000) (hm : 1 ≤ m) (hm' : m ≤ 100000) (w : World) : Calls Try.prog 16 #[.int .i64 n, .int .i64 m] w fun e w' =>
    e = .returned (.int .i64 v) ∧ w' = w := hv ▸ up_any n m hn hn' hm hm' w

theorem was_bd {l : Lay} (h : 1 ≤ l.st) (k : Nat) : 0 ≤ (slabF l k).was ∧ (slabF l k).was ≤ bytesO k := by
  have h1 := was_of l k
  have h2 := obj_nn h k
  have h3 : 0 ≤ (slabF l k).obj * (slabF l k).st := Int.mul_nonneg h2 (show 0 ≤ l.st by omega)
  have h4 := Int.ediv_mul_le (bytesO k) (show l.st ≠ 0 by omega)
  have h5 : (slabF l k).obj * l.st ≤ bytesO k / l.st * l.st := Int.mul_le_mul_of_nonneg_right (show min (bytesO k / l.st) 16 ≤ _ by omega) (by omega)
  have h6 : (slabF l k).st = l.st := rfl
  rw [h6] at h1 h3
  omega
theorem bytes_le {k : Nat} (h : k < 4) : bytesO k ≤ 2048 := by
  obtain rfl | rfl | rfl | rfl : k = 0 ∨ k = 1 ∨ k = 2 ∨ k = 3 := by omega
  all_goals decide
theorem scan_zero {l : Lay} {k : Nat} {first : Option Lay} {ob : Int} (h : k < 4) (ho : (slabF l k).obj = ob) (h0 : ob = 0) : scan l (4 - k) k first = scan l (4 - (k + 1)) (k + 1) first := by
  rw [show 4 - k = (4 - (k + 1)) + 1 by omega]
  rw [scan.eq_def]
  simp only []
  rw [if_pos (by rw [ho, h0])]
theorem scan_good {l : Lay} {k : Nat} {first : Option Lay} {ob wa : Int} (h : k < 4) (ho : (slabF l k).obj = ob) (h0 : ob ≠ 0) (hw : (slabF l k).was = wa) (hg : wa * 8 ≤ bytesO k) : scan l (4 - k) k first = (slabF l k, 0) := by
  rw [show 4 - k = (4 - (k + 1)) + 1 by omega]
  rw [scan.eq_def]
  simp only []
  rw [if_neg (by rw [ho]; exact h0), if_pos (by rw [hw]; exact hg)]
theorem scan_some {l : Lay} {k : Nat} {x : Lay} {ob wa : Int} (h : k < 4) (ho : (slabF l k).obj = ob) (h0 : ob ≠ 0) (hw : (slabF l k).was = wa) (hg : ¬ wa * 8 ≤ bytesO k) : scan l (4 - k) k (some x) = scan l (4 - (k + 1)) (k + 1) (some x) := by
  rw [show 4 - k = (4 - (k + 1)) + 1 by omega]
  rw [scan.eq_def]
  simp only []
  rw [if_neg (by rw [ho]; exact h0), if_neg (by rw [hw]; exact hg)]
theorem scan_first {l : Lay} {k : Nat} {ob wa : Int} (h : k < 4) (ho : (slabF l k).obj = ob) (h0 : ob ≠ 0) (hw : (slabF l k).was = wa) (hg : ¬ wa * 8 ≤ bytesO k) : scan l (4 - k) k none = scan l (4 - (k + 1)) (k + 1) (some (slabF l k)) := by
  rw [show 4 - k = (4 - (k + 1)) + 1 by omega]
  rw [scan.eq_def]
  simp only []
  rw [if_neg (by rw [ho]; exact h0), if_neg (by rw [hw]; exact hg)]

theorem wrap_bytes {k : Nat} (h : k < 4) : wrap64 (256 * 2 ^ k) = bytesO k := by
  obtain rfl | rfl | rfl | rfl : k = 0 ∨ k = 1 ∨ k = 2 ∨ k = 3 := by omega
  all_goals decide +kernel
theorem lay_of {s a st off : Int} {k : Nat} {ob wa : Int} (hob : (slabF ⟨s, a, st, off, 0, 0, 0⟩ k).obj = ob) (hwa : (slabF ⟨s, a, st, off, 0, 0, 0⟩ k).was = wa) :
    layV (slabF ⟨s, a, st, off, 0, 0, 0⟩ k) = .agg #[.int .i64 s, .int .i64 a, .int .i64 st, .int .i64 off, .int .i64 k, .int .i64 ob, .int .i64 wa] := by
  rw [← hob, ← hwa]
  rfl
theorem lay_blk {w : World} {b : Nat} {x : Lay} {cs : Array Value} (h : layV x = .agg cs) (hb : Blk w b 23 cs) : Blk w b 23 (layC ((some x).getD lay0)) := by
  have h1 : Value.agg (layC x) = .agg cs := h
  injection h1 with h2
  rw [Option.getD_some, h2]
  exact hb

def OfRel (B : Nat) (w : World) (s a st off : Int) (R : Lay × Int) (j found : Value) (wr : World) : Prop :=
  ∃ (k : Nat) (first : Option Lay), k ≤ 4 ∧ j = .int .i64 k ∧ found = .bool first.isSome ∧ Hid (scan ⟨s, a, st, off, 0, 0, 0⟩ (4 - k) k first = R) ∧
    Blk wr B 23 (layC lay0) ∧ Blk wr (B + 1) 23 (layC ⟨s, a, st, off, 0, 0, 0⟩) ∧ Blk wr (B + 1 + 1) 23 (layC (first.getD lay0)) ∧ B + 3 ≤ wr.heap.size ∧ Below B w wr

theorem refSlab_at (s a st off : Int) (k : Nat) (ob wa : Int) (hk : k ≤ 3) (h1 : 1 ≤ st) (h2 : st ≤ 100000) (hob : (slabF ⟨s, a, st, off, 0, 0, 0⟩ k).obj = ob) (hwa : (slabF ⟨s, a, st, off, 0, 0, 0⟩ k).was = wa) (w : World) :
    Calls Try.prog 20 #[.agg #[.int .i64 s, .int .i64 a, .int .i64 st, .int .i64 off, .int .i64 0, .int .i64 0, .int .i64 0], .int .i64 k] w fun e w' =>
      e = .returned (.agg #[.int .i64 s, .int .i64 a, .int .i64 st, .int .i64 off, .int .i64 k, .int .i64 ob, .int .i64 wa]) ∧ Below w.heap.size w w' := by
  refine (refSlab_any ⟨s, a, st, off, 0, 0, 0⟩ k hk h1 h2 w).mono ?_
  rintro e w' ⟨rfl, hb⟩
  refine ⟨?_, hb⟩
  rw [← hob, ← hwa]
  rfl
theorem refUp_is (n m v : Int) (hv : upI n m = v) (hn : 0 ≤ n) (hn' : n ≤ 100000) (hm : 1 ≤ m) (hm' : m ≤ 100000) (w : World) : Calls Try.prog 19 #[.int .i64 n, .int .i64 m] w fun e w' =>
    e = .returned (.int .i64 v) ∧ w' = w := hv ▸ refUp_any n m hn hn' hm hm' w
theorem aligned_no (a : Int) (h : alB a = false) (w : World) : Calls Try.prog 18 #[.int .i64 a] w fun e w' => e = .returned (.bool false) ∧ w' = w := h ▸ aligned_any a w
theorem aligned_is (a : Int) (h : alB a = true) (w : World) : Calls Try.prog 18 #[.int .i64 a] w fun e w' => e = .returned (.bool true) ∧ w' = w := h ▸ aligned_any a w

theorem scan1_good {l : Lay} {k : Nat} {ob wa : Int} (h : k < 4) (ho : (slabF l k).obj = ob) (hw : (slabF l k).was = wa) (hg : 0 < ob ∧ wa * 8 ≤ wa + ob * l.st) : scan1 l (4 - k) k = (slabF l k, 0) := by
  rw [show 4 - k = (4 - (k + 1)) + 1 by omega]
  rw [scan1, ho, hw, show (slabF l k).st = l.st from rfl, if_pos hg]
theorem scan1_bad {l : Lay} {k : Nat} {ob wa : Int} (h : k < 4) (ho : (slabF l k).obj = ob) (hw : (slabF l k).was = wa) (hg : ¬ (0 < ob ∧ wa * 8 ≤ wa + ob * l.st)) : scan1 l (4 - k) k = scan1 l (4 - (k + 1)) (k + 1) := by
  rw [show 4 - k = (4 - (k + 1)) + 1 by omega]
  rw [scan1, ho, hw, show (slabF l k).st = l.st from rfl, if_neg hg]
theorem scan2_good {l : Lay} {k : Nat} {ob : Int} (h : k < 4) (ho : (slabF l k).obj = ob) (hg : 0 < ob) : scan2 l (4 - k) k = (slabF l k, 0) := by
  rw [show 4 - k = (4 - (k + 1)) + 1 by omega]
  rw [scan2, ho, if_pos hg]
theorem scan2_bad {l : Lay} {k : Nat} {ob : Int} (h : k < 4) (ho : (slabF l k).obj = ob) (hg : ¬ 0 < ob) : scan2 l (4 - k) k = scan2 l (4 - (k + 1)) (k + 1) := by
  rw [show 4 - k = (4 - (k + 1)) + 1 by omega]
  rw [scan2, ho, if_neg hg]

def RefRel (B : Nat) (w : World) (s a st off : Int) (R : Lay × Int) (F : Nat → Lay × Int) (j : Value) (wr : World) : Prop :=
  ∃ k : Nat, k ≤ 4 ∧ j = .int .i64 k ∧ Hid (F k = R) ∧ Blk wr B 23 (layC lay0) ∧ Blk wr (B + 1) 23 (layC ⟨s, a, st, off, 0, 0, 0⟩) ∧ B + 2 ≤ wr.heap.size ∧ Below B w wr


end Go.Proofs.Ytibpaomkaknbhaa
