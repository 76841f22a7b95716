/-
  Move, New, and an owner that is none.
-/
import Derived.Test.YtehmegnmfpfopaaWalkC
import Derived.WalkKit
import Derived.Deep.DeepMust
import Derived.WalkSpells
import Derived.WalkLawsBesides
import Derived.Handy
import Derived.Lib.Hide
import Derived.Deep.QuietTactic
import Derived.BigQuiet
namespace Go.Proofs.Ytehmegnmfpfopaa
open Go.RowKit

def moveF (F : Int → Int → Int) (f t : Int) : Int → Int → Int := fun x y => if F x y = f then t else F x y
def midF (F : Int → Int → Int) (left : Int → Int → Bool) (f t : Int) : Int → Int → Int := fun x y => if F x y = f ∧ left x y = false then t else F x y
def moveE (f t : Int) : Int := bif grpB f && grpB t then 0 else 110
def moveN (S O : Nat) (F : Int → Int → Int) (f t : Int) : Int := bif grpB f && grpB t then (bif decide (f = t) then 0 else (cntF S O F f : Int)) else 0
def movedF (F : Int → Int → Int) (f t : Int) : Int → Int → Int := bif grpB f && grpB t then moveF F f t else F
theorem moveF_same (F : Int → Int → Int) (f : Int) : moveF F f f = F := by
  funext x y
  unfold moveF
  split
  · rename_i h; exact h.symm
  · rfl
theorem RangeF.congr {w : World} {b r n : Nat} {F G : Int → Int → Int} {left : Int → Int → Bool} {cnt : Nat} (h : RangeF w b r n F left cnt) (e : ∀ x y, w64 x → w64 y → G x y = F x y) : RangeF w b r n G left cnt := by
  obtain ⟨D, lf, h1, h2, h3⟩ := h
  exact ⟨D, lf, h1, fun x y hx hy => by rw [e x y hx hy]; exact h2 x y hx hy, h3⟩

theorem One.grown {w wr w1 : World} {m r : Nat} (h : One m w wr) (hg : wr.grownBy w1 (some r)) (hr : w.heap.size ≤ r) : One m w w1 :=
  ⟨hg.os.trans h.os, hg.tape.trans h.tape, hg.output.trans h.output, Nat.le_trans h.size hg.size, fun k hk h1 => (hg.block k (Nat.lt_of_lt_of_le hk h.size) (fun e => by cases e; omega)).trans (h.block k hk h1)⟩
theorem mid_hit {F : Int → Int → Int} {left : Int → Int → Bool} {f t X Y : Int} (hg : F X Y = f) (x y : Int) : midF F (strike left X Y) f t x y = putF (midF F left f t) X Y t x y := by
  unfold putF midF
  by_cases e : x = X ∧ y = Y
  · obtain ⟨rfl, rfl⟩ := e
    rw [strike_same, if_pos ⟨hg, rfl⟩, if_pos ⟨rfl, rfl⟩]
  · rw [strike_other e, if_neg e]
theorem mid_miss {F : Int → Int → Int} {left : Int → Int → Bool} {f t X Y : Int} (hg : F X Y ≠ f) (x y : Int) : midF F (strike left X Y) f t x y = midF F left f t x y := by
  unfold midF
  by_cases e : x = X ∧ y = Y
  · obtain ⟨rfl, rfl⟩ := e
    rw [if_neg (fun h => hg h.1), if_neg (fun h => hg h.1)]
  · rw [strike_other e]

set_option maxRecDepth 100000 in
set_option maxHeartbeats 4000000 in
theorem move_any (w : World) (b m S O n : Nat) (F : Int → Int → Int) (h : OwnAt w b m S O n F) (hn : n < 1000) (f t : Int) :
    Calls Try.prog 14 #[.pointer (some ⟨b, 0, none⟩), .int .i64 f, .int .i64 t] w fun e w' => e = .returned (.tuple #[.int .i64 (moveN S O F f t), .int .i64 (moveE f t)]) ∧ OwnAt w' b m S O n (movedF F f t) ∧ One m w w' := by
  have H := Lib.hid h
  have hB := h.blk
  have c2 : w.cell? ⟨b, 2, none⟩ = some (.map (some m)) := h.blk.cell 2
  have hm := h.map
  have hlb := h.blk.lt
  clear h
  unfold moveN moveE movedF
  cases hf : grpB f with
  | false =>
    go_enter Try.func14, Try.ntmps14
    go_wp2_with (first | (go_at_call 25; (with_reducible refine (none_any _ b m S O hB).mono ?_); rintro e wq ⟨rfl, hwq⟩; replace hwq := hwq.symm; subst hwq) | (go_at_call 22; (with_reducible refine (grouped_any f _).mono ?_); rintro e wq ⟨rfl, hwq⟩; replace hwq := hwq.symm; subst hwq; rw [hf]))
    go_ret2
    exact ⟨rfl, H.out, One.refl _ _⟩
  | true =>
    cases ht : grpB t with
    | false =>
      go_enter Try.func14, Try.ntmps14
      go_wp2_with (first | (go_at_call 25; (with_reducible refine (none_any _ b m S O hB).mono ?_); rintro e wq ⟨rfl, hwq⟩; replace hwq := hwq.symm; subst hwq) | (go_at_call 22; (with_reducible refine (grouped_any f _).mono ?_); rintro e wq ⟨rfl, hwq⟩; replace hwq := hwq.symm; subst hwq; rw [hf]) | (go_at_call 22; (with_reducible refine (grouped_any t _).mono ?_); rintro e wq ⟨rfl, hwq⟩; replace hwq := hwq.symm; subst hwq; rw [ht]))
      go_ret2
      exact ⟨rfl, H.out, One.refl _ _⟩
    | true =>
      by_cases hft : f = t
      · subst hft
        rw [decide_eq_true rfl, moveF_same]
        go_enter Try.func14, Try.ntmps14
        go_wp2_with (first | (go_at_call 25; (with_reducible refine (none_any _ b m S O hB).mono ?_); rintro e wq ⟨rfl, hwq⟩; replace hwq := hwq.symm; subst hwq) | (go_at_call 22; (with_reducible refine (grouped_any f _).mono ?_); rintro e wq ⟨rfl, hwq⟩; replace hwq := hwq.symm; subst hwq; rw [hf]))
        go_ret2
        exact ⟨rfl, H.out, One.refl _ _⟩
      · have hgf := grpB_iff.1 hf
        have hgt := grpB_iff.1 ht
        have ht64 : w64 t := w64_iff.2 (by omega)
        have hin2 : Hid (∀ x y, moveF F f t x y ≠ 0 → (0 ≤ x ∧ x < S ∧ 0 ≤ y ∧ y < O) ∧ 1 ≤ moveF F f t x y ∧ moveF F f t x y ≤ 16) := Lib.hid (fun x y hxy => by
          unfold moveF at hxy ⊢
          by_cases e : F x y = f
          · rw [if_pos e]; exact ⟨(H.out.in_ x y (by omega)).1, hgt⟩
          · rw [if_neg e] at hxy ⊢; exact H.out.in_ x y hxy)
        have hfb : (f == t) = false := by simpa using hft
        rw [decide_eq_false hft]
        go_enter Try.func14, Try.ntmps14
        go_wp2_with (first | (go_at_call 25; (with_reducible refine (none_any _ b m S O hB).mono ?_); rintro e wq ⟨rfl, hwq⟩; replace hwq := hwq.symm; subst hwq) | (go_at_call 22; (with_reducible refine (grouped_any f _).mono ?_); rintro e wq ⟨rfl, hwq⟩; replace hwq := hwq.symm; subst hwq; rw [hf]) | (go_at_call 22; (with_reducible refine (grouped_any t _).mono ?_); rintro e wq ⟨rfl, hwq⟩; replace hwq := hwq.symm; subst hwq; rw [ht]) | (at_range; refine wpList_range rfl _ rfl rfl hm ?_; intro w0 cnt0 hrg0 hb0 hs0))
        go_frame
        go_loopw [6, 8, 9] (fun q _ _ wr => ∃ left cnt, RangeF wr m w.heap.size n (midF F left f t) left cnt ∧ q = .int .i64 (cntP S O (cameG F left f) : Int) ∧ One m w wr) (fun _ _ _ wr => wr.rangeLeft m w.heap.size)
        case atStart => exact ⟨_, _, hrg0.congr (fun x y _ _ => by
          unfold midF
          by_cases h0 : F x y = 0
          · rw [if_neg (by omega)]
          · rw [if_neg (by simp [h0])]), by rw [came_start]; rfl, One.of_below _ hb0⟩
        case round =>
          clear hrg0 hb0 hs0 hm c2
          obtain ⟨left, cnt, hrg, rfl, hT⟩ := hrel
          have hle := came_le H.out.s2 H.out.o2 (cameG F left f)
          obtain ⟨c, hc⟩ : ∃ c, Hid (cntP S O (cameG F left f) = c) := ⟨_, Lib.hid rfl⟩
          rw [hc.out] at hle ⊢
          go_wp2_with (first | (at_next; refine wpList_next rfl _ rfl rfl hrg ?_ ?_))
          · intro hl
            have hend := came_end H.out.s2 H.out.o2 (F := F) (g := f) hl
            have hMap := hrg.owns.congr (G := moveF F f t) (fun x y hx hy => by
              unfold midF moveF
              rw [hl x y hx hy]; simp)
            go_wp2
            go_ret2
            exact ⟨by rw [← hend, hc.out]; rfl, ⟨hB.one hT H.out.ne, hMap, H.out.s1, H.out.s2, H.out.o1, H.out.o2, hin2.out⟩, hT⟩
          · intro X Y wn cnt1 hX hY hl hrg1 hlt hg1 hs1 hen
            have hv : midF F left f t X Y = F X Y := by unfold midF; rw [if_neg (by rw [hl]; simp)]
            have hF0 := hrg.there hX hY hl
            rw [hv] at hF0 hen
            rw [hv]
            have hin := (H.out.in_ X Y hF0).1
            have hT1 := hT.grown hg1 (Nat.le_refl _)
            clear hT hs1
            by_cases hg : F X Y = f
            · have hst := came_yes (g := f) hin hl hF0 hg
              rw [hc.out] at hst
              have hBx := (hB.one hT1 H.out.ne).alloc (.cells #[.int .i64 X, .int .i64 Y] 54)
              have c2 : (wn.alloc (.cells #[.int .i64 X, .int .i64 Y] 54)).cell? ⟨b, 2, none⟩ = some (.map (some m)) := hBx.cell 2
              have lb : b < wn.heap.size + 1 := by have := hT1.size; omega
              have hTx := hT1.alloc (.cells #[.int .i64 X, .int .i64 Y] 54)
              have hrx := hrg1.alloc (.cells #[.int .i64 X, .int .i64 Y] 54)
              clear hT1 hBx
              go_wp2
              (refine wp_region_tail 6 (wn.heap.size + 1) ?_ ?_ ?_ ?_ ?_ ?_ ?_; kernel_rfl; kernel_rfl; kernel_rfl; kernel_rfl; kernel_rfl; go_size; intro hxc hxf hxh hxn; simp only [List.take, List.drop]; (repeat (first | go_big_quiet_step (fail) | quiet_step (fail))); refine wpQuiet_nil ?_; intro w1 hs1; clear hxc hxf hxh hxn; obtain ⟨hb1, hz1, hc1, hf1⟩ := ext_known hs1 (wn.heap.size + 1) (by go_size); clear hs1)
              have hr2 := hrx.below hb1
              have hT2 := hTx.trans (One.of_below m hb1)
              clear hc1 hf1
              go_wp2_with (first | (at_mapUpdate; refine wpList_restore rfl _ _ _ rfl rfl hr2 (by unfold maxLen; omega) X Y t rfl rfl hX hY ht64 (by omega) (by rw [hv]; exact hF0) ?_; intro w2 hr3 ht2))
              go_roundw
              case rel => exact ⟨_, cnt1, hr3.congr (fun x y _ _ => mid_hit hg x y), by rw [hst]; go_num, hT2.trans (One.turn ht2)⟩
              case measure => rw [hr3.left_eq, hrg.left_eq]; exact hlt
            · have hst := came_no (S := S) (O := O) (left := left) hg
              rw [hc.out] at hst
              go_wp2
              go_roundw
              case rel => exact ⟨_, cnt1, (hrg1.alloc _).congr (fun x y _ _ => mid_miss hg x y), by rw [hst], hT1.alloc _⟩
              case measure => rw [(hrg1.alloc _).left_eq, hrg.left_eq]; exact hlt

end Go.Proofs.Ytehmegnmfpfopaa
