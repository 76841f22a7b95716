/-
  The walks of SegsRows and SegsReady.
-/
import Derived.Test.YthfnnlcfakkabaaLawA
import Derived.WalkKit
import Derived.Deep.DeepMust
import Derived.WalkSpells
import Derived.WalkLawsBesides
import Derived.Handy
import Derived.Lib.Hide
import Derived.Deep.QuietTactic
import Derived.BigQuiet
namespace Go.Proofs.Ythfnnlcfakkabaa
open Go.RowKit

theorem errC_len {l : List Wt} {x : Wt} {r : List Wt} {er : Int} (h : addF l x = (r, er)) : r.length ≤ 257 := by
  by_cases h0 : errC l = 0
  · by_cases h1 : l.length = 256
    · rw [addF_full h0 h1] at h; injection h with h _; subst h; simp
    · have hl := (errC_zero.1 h0).1
      by_cases h2 : errC (l ++ [x]) = 0
      · rw [addF_ok h0 h1 h2] at h; injection h with h _; subst h; simp; omega
      · rw [addF_bad h0 h1 h2] at h; injection h with h _; subst h; simp
  · rw [addF_err h0] at h; injection h with h _; subst h; simp

set_option maxRecDepth 100000 in
set_option maxHeartbeats 4000000 in
theorem rows_at (l : List Wt) (L n c : Nat) (A : Option Addr) (i a : Int) (hLc : L ≤ c) (hmin : min (L : Int) 300 = (n : Int)) (hn300 : n ≤ 300) (hnL : n ≤ L) (hn : Hid (l.length = n)) (r : List Wt) (m : Nat) (er ec nx : Int) (hr : Hid (addF l ⟨i, a⟩ = (r, er))) (hm : Hid (r.length = m)) (hm257 : m ≤ 257) (hec : Hid (errC l = ec)) (hnx : Hid (nextF l = nx)) (w : World) (hA : WRow w A l) :
    Calls Try.prog 3 #[.slice A L c, .agg #[.int .i64 i, .int .i64 a]] w fun e w' => e = .returned (.bool true) ∧ Below w.heap.size w w' := by
  have HA := Lib.hid hA
  clear hA
  go_enter Try.func3, Try.ntmps3
  go_wp2_with (first | (go_at_call 9; (with_reducible refine (copy_any l A n c _ hn (by omega) (HA.out.alloc _)).mono ?_); rintro e w1 ⟨v1, rfl, ho1, hb1⟩; obtain ⟨A1, c1, rfl, -, hr1⟩ := WRow.slice ho1; have hA1 : WRow w1 A l := (HA.out.alloc _).below hb1; have HR1 := Lib.hid (Row.toB hr1); have HA1 := Lib.hid (Row.toB hA1); have hxc := ((Blk.new w 24 #[.int .i64 i, .int .i64 a]).below hb1); have hx1 := hxc.cell; have z1 := hb1.size; rw [World.size_alloc] at z1) | (go_at_call 10; (with_reducible refine (add_any l i a A1 n c1 _ hn (by omega) hr1 r er hr.out).mono ?_); rintro e w2 ⟨v2, rfl, ho2, hb2⟩; rw [hm.out] at ho2; obtain ⟨A2, c2, rfl, -, hr2⟩ := WRow.slice ho2; replace hA1 := hA1.below hb2; have hxd := hxc.below hb2; have hx2 := hxd.cell; clear hx1; replace hr1 := hr1.below hb2; have z2 := hb2.size) | (go_at_call 11; (with_reducible refine (refAdd_any l i a A n c _ hn (by omega) hA1 r er hr.out).mono ?_); rintro e w3 ⟨v3, rfl, ho3, hb3⟩; rw [hm.out] at ho3; obtain ⟨A3, c3, rfl, -, hr3⟩ := WRow.slice ho3; replace hA1 := hA1.below hb3; clear hx2; replace hr1 := hr1.below hb3; replace hr2 := hr2.below hb3; replace ho2 := own_below ho2 hb3; have z3 := hb3.size) | (go_at_call 12; (with_reducible refine (check_any l A1 n c1 _ hn (by omega) hr1 ec hec.out).mono ?_); rintro e w4 ⟨rfl, hb4⟩; replace hA1 := hA1.below hb4; replace hr1 := hr1.below hb4; replace hr2 := hr2.below hb4; replace hr3 := hr3.below hb4; replace ho2 := own_below ho2 hb4; have z4 := hb4.size) | (go_at_call 13; (with_reducible refine (refCheck_any l A n c _ hn (by omega) hA1 ec hec.out).mono ?_); rintro e w5 ⟨rfl, hb5⟩; replace hA1 := hA1.below hb5; replace hr1 := hr1.below hb5; replace hr2 := hr2.below hb5; replace hr3 := hr3.below hb5; replace ho2 := own_below ho2 hb5; have z5 := hb5.size) | (go_at_call 14; (with_reducible refine (next_any l A1 n c1 _ hn (by omega) hr1 nx hnx.out).mono ?_); rintro e w6 ⟨rfl, hb6⟩; replace hA1 := hA1.below hb6; replace hr1 := hr1.below hb6; replace hr2 := hr2.below hb6; replace hr3 := hr3.below hb6; replace ho2 := own_below ho2 hb6; have z6 := hb6.size) | (go_at_call 15; (with_reducible refine (refNext_any l A n c _ hn (by omega) hA1 nx hnx.out).mono ?_); rintro e w7 ⟨rfl, hb7⟩; replace hA1 := hA1.below hb7; replace hr1 := hr1.below hb7; replace hr2 := hr2.below hb7; replace hr3 := hr3.below hb7; replace ho2 := own_below ho2 hb7; have z7 := hb7.size) | (go_at_call 16; (with_reducible refine (same_any r r m m true hm hm (by omega) (by omega) (decide_eq_true rfl) A2 A3 c2 c3 _ hr2 hr3).mono ?_); rintro e w8 ⟨rfl, hb8⟩; replace hA1 := hA1.below hb8; replace hr1 := hr1.below hb8; replace ho2 := own_below ho2 hb8; have z8 := hb8.size))
  have q8 : Below w1.heap.size w1 w8 := by (repeat' (first | (with_reducible exact Below.refl _ _) | (with_reducible assumption) | (with_reducible refine Below.alloc ?_ ?_ _) | (with_reducible refine below_drewN ?_ _) | (with_reducible refine Below.drew ?_) | (with_reducible refine Below.setCell ?_ ?_ _) | (with_reducible refine below_two ?_ (by with_reducible assumption)) | go_size))
  have qw : Below w.heap.size w w1 := by (repeat' (first | (with_reducible exact Below.refl _ _) | (with_reducible assumption) | (with_reducible refine Below.alloc ?_ ?_ _) | (with_reducible refine below_drewN ?_ _) | (with_reducible refine Below.drew ?_) | (with_reducible refine Below.setCell ?_ ?_ _) | (with_reducible refine below_two ?_ (by with_reducible assumption)) | go_size))
  clear hr1 hA1 hr2 hr3 hb1 hb2 hb3 hb4 hb5 hb6 hb7 hb8 hxc hxd ho1 ho3
  go_loopw [10] (fun j wr => ∃ (k : Nat) (ys : List Value), k ≤ m ∧ j = .int .i64 k ∧ wr.ownsRow w1.heap.size 24 2 (.slice A2 m c2) m ys ∧ Below w1.heap.size w1 wr) (fun j _ => m - (intOf j).toNat)
  case atStart => exact ⟨0, _, by omega, rfl, ho2, q8⟩
  case round =>
    clear ho2 q8
    obtain ⟨k, ys, hk, rfl, ho, hw⟩ := hrel
    have hz := hw.size
    by_cases hlt : k < m
    · obtain ⟨g, cap, hv, hgb, hgl⟩ := ho.form (by omega)
      have hA2 : A2 = some ⟨g, 0, none⟩ := by injection hv
      subst hA2
      have hyl : ys.length = m * 2 := ho.1
      obtain ⟨u, hu⟩ : ∃ u, ys[k * 2]? = some u := ⟨_, List.getElem?_eq_getElem (by omega)⟩
      have cK := (ho.cellAt (k * 2) (by omega)).trans hu
      have dK := ho.frozenAt (k * 2)
      have HO := Lib.hid (ho.stored (k * 2) (.int .i64 (-1))).1
      have k0 : (0 : Int) ≤ (k : Int) := by omega
      have k1 : (k : Int) < (m : Int) := by omega
      clear hv ho hyl hu
      go_wp2
      go_roundw
      case rel => exact ⟨k + 1, _, by omega, by go_num, HO.out, hw.setCell hgb _⟩
      case measure => simp [intOf]; omega
    · have q5 : Below w.heap.size w wr := by (repeat' (first | (with_reducible exact Below.refl _ _) | (with_reducible assumption) | (with_reducible refine Below.alloc ?_ ?_ _) | (with_reducible refine below_drewN ?_ _) | (with_reducible refine Below.drew ?_) | (with_reducible refine Below.setCell ?_ ?_ _) | (with_reducible refine below_two ?_ (by with_reducible assumption)) | go_size))
      have r1 : WRow wr A1 l := (HR1.out.below hw).row hz
      have r2 : WRow wr A l := (HA1.out.below hw).row hz
      go_wp2_with (first | (go_at_call 16; (with_reducible refine (same_any l l n n true hn hn (by omega) (by omega) (decide_eq_true rfl) A1 A c1 c _ r1 r2).mono ?_); rintro e w9 ⟨rfl, hb9⟩; have z9 := hb9.size) | (go_at_call 17; with_reducible refine (works_any _).mono ?_; rintro e w10 ⟨rfl, hb10⟩))
      go_ret
      exact ⟨rfl, by (repeat' (first | (with_reducible exact Below.refl _ _) | (with_reducible assumption) | (with_reducible refine Below.alloc ?_ ?_ _) | (with_reducible refine below_drewN ?_ _) | (with_reducible refine Below.drew ?_) | (with_reducible refine Below.setCell ?_ ?_ _) | (with_reducible refine below_two ?_ (by with_reducible assumption)) | go_size))⟩

theorem min_nat (L : Nat) : ∃ n : Nat, min (L : Int) 300 = (n : Int) ∧ n ≤ 300 ∧ n ≤ L := ⟨(min (L : Int) 300).toNat, by omega, by omega, by omega⟩
theorem WRow.take {w : World} {A : Option Addr} {l : List Wt} (h : WRow w A l) (n : Nat) : WRow w A (l.take n) := fun hp => by
  rw [rowV_len, List.length_take] at hp
  obtain ⟨b, off, e, hb, hc⟩ := h (by rw [rowV_len]; omega)
  refine ⟨b, off, e, hb, fun j u hu => hc j u ?_⟩
  have e1 : rowV l = rowV (l.take n) ++ rowV (l.drop n) := by rw [← rowV_append, List.take_append_drop]
  rw [e1, List.getElem?_append_left (List.getElem?_eq_some_iff.1 hu).1]
  exact hu

theorem rows_any (l : List Wt) (L c : Nat) (A : Option Addr) (i a : Int) (hlL : l.length = L) (hLc : L ≤ c) (w : World) (hA : WRow w A l) :
    Calls Try.prog 3 #[.slice A L c, .agg #[.int .i64 i, .int .i64 a]] w fun e w' => e = .returned (.bool true) ∧ Below w.heap.size w w' := by
  obtain ⟨n, h1, h2, h3⟩ := min_nat L
  rcases hr : addF (l.take n) ⟨i, a⟩ with ⟨r, er⟩
  exact rows_at (l.take n) L n c A i a hLc h1 h2 h3 (Lib.hid (by rw [List.length_take]; omega)) r r.length er _ _ (Lib.hid hr) (Lib.hid rfl) (errC_len hr) (Lib.hid rfl) (Lib.hid rfl) w (hA.take n)

end Go.Proofs.Ythfnnlcfakkabaa
