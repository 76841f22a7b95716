/-
  The walk of SegsReady.
-/
import Derived.Test.YthfnnlcfakkabaaLawB
import Derived.WalkKit
import Derived.Deep.DeepMust
import Derived.WalkSpells
import Derived.WalkLawsBesides
import Derived.Handy
import Derived.Lib.Hide
import Derived.Deep.QuietTactic
import Derived.BigQuiet
namespace Go.Proofs.Ythfnnlcfakkabaa
open Go.RowKit

/-- As Readys, the rest's length under a name of its own. -/
def ReadyM (w : World) (l : List Wt) (K m : Nat) (e : Ending) (w' : World) : Prop :=
  ∃ v A c A5 c5, e = .returned (.tuple #[.slice A K c, .slice A5 m c5, .int .i64 0]) ∧ v = .slice A K c ∧ w'.ownsRow w.heap.size 3 1 v K (intsV (idsL (l.take K))) ∧ Row w' A (intsV (idsL (l.take K))) ∧ RestAt w' w.heap.size A5 (l.drop K) ∧ m ≤ c5 ∧ Below w.heap.size w w'
theorem Readys.m {w : World} {l : List Wt} {n K m : Nat} (hm : n - K = m) {e : Ending} {w' : World} (h : Readys w l n K e w') : ReadyM w l K m e w' := by
  subst hm
  obtain ⟨v, A5, c5, he, ho, hR, hc, hb⟩ := h
  obtain ⟨A, c, rfl, hr⟩ := Row.slice ho
  exact ⟨_, A, c, A5, c5, he, rfl, ho, hr, hR, hc, hb⟩
theorem ready_m (l : List Wt) (d : Int) (A : Option Addr) (n c : Nat) (w : World) (hn : Hid (l.length = n)) (hA : WRow w A l) (he : Hid (errC l = 0)) (K m : Nat) (hK : cutN d l = K) (hm : n - K = m) :
    Calls Try.prog 18 #[.slice A n c, .int .i64 d] w (ReadyM w l K m) := (ready_any l d A n c w hn hA he K hK).mono fun _ _ h => h.m hm
theorem refReady_m (l : List Wt) (d : Int) (A : Option Addr) (n c : Nat) (w : World) (hn : Hid (l.length = n)) (hnc : n ≤ c) (hA : WRow w A l) (he : Hid (errC l = 0)) (K m : Nat) (hK : cutN d l = K) (hm : n - K = m) :
    Calls Try.prog 19 #[.slice A n c, .int .i64 d] w (ReadyM w l K m) := (refReady_any l d A n c w hn hnc hA he K hK).mono fun _ _ h => h.m hm

/-- A slice of m records whose cells may be written. -/
def RestW (w : World) (B : Nat) (A : Option Addr) (m : Nat) : Prop := 0 < m → ∃ g off, A = some ⟨g, off, none⟩ ∧ B ≤ g ∧ (∀ o, w.frozen? ⟨g, o, none⟩ = false) ∧ ∀ j, j < m * 2 → ∃ u, w.cell? ⟨g, off + j, none⟩ = some u
theorem RestAt.w {w : World} {B : Nat} {A : Option Addr} {l : List Wt} {m : Nat} (h : RestAt w B A l) (hm : l.length = m) : RestW w B A m := fun hp => by
  obtain ⟨g, off, e, hb, -, hf, hc⟩ := h (by omega)
  exact ⟨g, off, e, hb, hf, fun j hj => ⟨_, hc j _ (List.getElem?_eq_getElem (by rw [rowV_len]; omega))⟩⟩

set_option maxRecDepth 100000 in
set_option maxHeartbeats 4000000 in
theorem sready_err (l : List Wt) (L n c : Nat) (A : Option Addr) (d : Int) (hLc : L ≤ c) (hmin : min (L : Int) 300 = (n : Int)) (hn300 : n ≤ 300) (hnL : n ≤ L) (hn : Hid (l.length = n)) (er : Int) (he : Hid (errC l = er)) (h0 : er ≠ 0) (w : World) (hA : WRow w A l) :
    Calls Try.prog 4 #[.slice A L c, .int .i64 d] w fun e w' => e = .returned (.bool true) ∧ Below w.heap.size w w' := by
  have HA := Lib.hid hA
  have H0 := Lib.hid h0
  have HN : Hid (∀ w, Row w none []) := Lib.hid (fun w => Row.nil w _)
  clear hA h0
  go_enter Try.func4, Try.ntmps4
  go_wp2_with (first | (go_at_call 9; (with_reducible refine (copy_any l A n c _ hn (by omega) HA.out).mono ?_); rintro e w1 ⟨v1, rfl, ho1, hb1⟩; obtain ⟨A1, c1, rfl, -, hr1⟩ := WRow.slice ho1; have hA1 : WRow w1 A l := HA.out.below hb1; have z1 := hb1.size) | (go_at_call 18; (with_reducible refine (ready_err l d A1 n c1 _ hn (by omega) hr1 er he H0.out).mono ?_); rintro e w2 ⟨rfl, hb2⟩; replace hA1 := hA1.below hb2; replace hr1 := hr1.below hb2; have z2 := hb2.size) | (go_at_call 19; (with_reducible refine (refReady_err l d A n c _ hn (by omega) hA1 er he H0.out).mono ?_); rintro e w3 ⟨rfl, hb3⟩; replace hA1 := hA1.below hb3; replace hr1 := hr1.below hb3; have z3 := hb3.size) | (go_at_call 20; (with_reducible refine (eqI [] [] 0 0 true rfl rfl (by omega) (by omega) rfl _ _ _ _ _ (HN.out _) (HN.out _)).mono ?_); rintro e w4 ⟨rfl, hb4⟩; replace hA1 := hA1.below hb4; replace hr1 := hr1.below hb4; have z4 := hb4.size) | (go_at_call 16; (with_reducible refine (same_any [] [] 0 0 true (Lib.hid rfl) (Lib.hid rfl) (by omega) (by omega) rfl none none 0 0 _ (HN.out _) (HN.out _)).mono ?_); rintro e w5 ⟨rfl, hb5⟩; replace hA1 := hA1.below hb5; replace hr1 := hr1.below hb5; have z5 := hb5.size))
  refine wp_loop_rounds 1 ?_
  rw [rounds_succ]
  go_wp2_with (first | (go_at_call 16; (with_reducible refine (same_any l l n n true hn hn (by omega) (by omega) (decide_eq_true rfl) A1 A c1 c _ hr1 hA1).mono ?_); rintro e w9 ⟨rfl, hb9⟩; have z9 := hb9.size) | (go_at_call 17; with_reducible refine (works_any _).mono ?_; rintro e w10 ⟨rfl, hb10⟩))
  go_ret
  exact ⟨rfl, by (repeat' (first | (with_reducible exact Below.refl _ _) | (with_reducible assumption) | (with_reducible refine Below.alloc ?_ ?_ _) | (with_reducible refine below_drewN ?_ _) | (with_reducible refine Below.drew ?_) | (with_reducible refine Below.setCell ?_ ?_ _) | (with_reducible refine below_two ?_ (by with_reducible assumption)) | go_size))⟩

set_option maxRecDepth 100000 in
set_option maxHeartbeats 4000000 in
theorem sready_ok (l : List Wt) (L n c : Nat) (A : Option Addr) (d : Int) (hLc : L ≤ c) (hmin : min (L : Int) 300 = (n : Int)) (hn300 : n ≤ 300) (hnL : n ≤ L) (hn : Hid (l.length = n)) (he : Hid (errC l = 0)) (K m : Nat) (hK : Hid (cutN d l = K)) (hKn : K ≤ n) (hm : Hid (n - K = m)) (hmn : m ≤ n) (w : World) (hA : WRow w A l) :
    Calls Try.prog 4 #[.slice A L c, .int .i64 d] w fun e w' => e = .returned (.bool true) ∧ Below w.heap.size w w' := by
  have HA := Lib.hid hA
  have hi : Hid ((idsL (l.take K)).length = K) := Lib.hid (by unfold idsL; rw [List.length_map, List.length_take, hn.out]; omega)
  have hd : Hid ((l.drop K).length = m) := Lib.hid (by rw [List.length_drop, hn.out]; exact hm.out)
  clear hA
  go_enter Try.func4, Try.ntmps4
  go_wp2_with (first | (go_at_call 9; (with_reducible refine (copy_any l A n c _ hn (by omega) HA.out).mono ?_); rintro e w1 ⟨v1, rfl, ho1, hb1⟩; obtain ⟨A1, c1, rfl, -, hr1⟩ := WRow.slice ho1; have hA1 : WRow w1 A l := HA.out.below hb1; have HR1 := Lib.hid (Row.toB hr1); have HA1 := Lib.hid (Row.toB hA1); have z1 := hb1.size) | (go_at_call 18; (with_reducible refine (ready_m l d A1 n c1 _ hn hr1 he K m hK.out hm.out).mono ?_); rintro e w2 ⟨v2, A2, c2, A3, c3, rfl, -, -, hi2, hR2, -, hb2⟩; have hA2 := hA1.below hb2; have z2 := hb2.size) | (go_at_call 19; (with_reducible refine (refReady_m l d A n c _ hn (by omega) hA2 he K m hK.out hm.out).mono ?_); rintro e w3 ⟨v3, A4, c4, A5, c5, rfl, -, -, hi3, hR3, -, hb3⟩; have hi2 := hi2.below hb3; have hR2 := hR2.below hb3; have z3 := hb3.size) | (go_at_call 20; (with_reducible refine (eqI (idsL (l.take K)) (idsL (l.take K)) K K true hi.out hi.out (by omega) (by omega) (decide_eq_true rfl) A2 A4 c2 c4 _ hi2 hi3).mono ?_); rintro e w4 ⟨rfl, hb4⟩; have hR2 := hR2.below hb4; have hR3 := hR3.below hb4; have z4 := hb4.size) | (go_at_call 16; (with_reducible refine (same_any (l.drop K) (l.drop K) m m true hd hd (by omega) (by omega) (decide_eq_true rfl) A3 A5 c3 c5 _ hR2.row hR3.row).mono ?_); rintro e w5 ⟨rfl, hb5⟩; have hR2 := hR2.below hb5; have z5 := hb5.size))
  have q8 : Below w1.heap.size w1 w5 := by (repeat' (first | (with_reducible exact Below.refl _ _) | (with_reducible assumption) | (with_reducible refine Below.alloc ?_ ?_ _) | (with_reducible refine below_drewN ?_ _) | (with_reducible refine Below.drew ?_) | (with_reducible refine Below.setCell ?_ ?_ _) | (with_reducible refine below_two ?_ (by with_reducible assumption)) | go_size))
  have qw : Below w.heap.size w w1 := hb1
  have hW := hR2.w hd.out
  clear hr1 hA1 hb1 hb2 hb3 hb4 hb5 hA2 hi2 hi3 ho1 hR2 hR3
  go_loopw [12] (fun j wr => ∃ k : Nat, k ≤ m ∧ j = .int .i64 k ∧ RestW wr w1.heap.size A3 m ∧ Below w1.heap.size w1 wr) (fun j _ => m - (intOf j).toNat)
  case atStart => exact ⟨0, by omega, rfl, hW, q8⟩
  case round =>
    clear hW q8
    obtain ⟨k, hk, rfl, hW, hw⟩ := hrel
    have hz := hw.size
    by_cases hlt : k < m
    · obtain ⟨g, off, rfl, hgb, hf, hcs⟩ := hW (by omega)
      obtain ⟨u, cK⟩ := hcs (k * 2) (by omega)
      have dK := hf (off + k * 2)
      have HW : Hid (∀ x, RestW (wr.setCell ⟨g, off + k * 2, none⟩ x) w1.heap.size (some ⟨g, off, none⟩) m) := Lib.hid (fun x _ => ⟨g, off, rfl, hgb, fun o => by rw [World.frozen?_setCell]; exact hf o, fun j hj => by
        obtain ⟨u', hu'⟩ := hcs j hj
        exact cell?_setCell_some hu'⟩)
      have k0 : (0 : Int) ≤ (k : Int) := by omega
      have k1 : (k : Int) < (m : Int) := by omega
      clear hf hcs hW
      go_wp2
      go_roundw
      case rel => exact ⟨k + 1, by omega, by go_num, HW.out _, hw.setCell hgb _⟩
      case measure => simp [intOf]; omega
    · have q5 : Below w.heap.size w wr := by (repeat' (first | (with_reducible exact Below.refl _ _) | (with_reducible assumption) | (with_reducible refine Below.alloc ?_ ?_ _) | (with_reducible refine below_drewN ?_ _) | (with_reducible refine Below.drew ?_) | (with_reducible refine Below.setCell ?_ ?_ _) | (with_reducible refine below_two ?_ (by with_reducible assumption)) | go_size))
      have r1 : WRow wr A1 l := (HR1.out.below hw).row hz
      have r2 : WRow wr A l := (HA1.out.below hw).row hz
      go_wp2_with (first | (go_at_call 16; (with_reducible refine (same_any l l n n true hn hn (by omega) (by omega) (decide_eq_true rfl) A1 A c1 c _ r1 r2).mono ?_); rintro e w9 ⟨rfl, hb9⟩; have z9 := hb9.size) | (go_at_call 17; with_reducible refine (works_any _).mono ?_; rintro e w10 ⟨rfl, hb10⟩))
      go_ret
      exact ⟨rfl, by (repeat' (first | (with_reducible exact Below.refl _ _) | (with_reducible assumption) | (with_reducible refine Below.alloc ?_ ?_ _) | (with_reducible refine below_drewN ?_ _) | (with_reducible refine Below.drew ?_) | (with_reducible refine Below.setCell ?_ ?_ _) | (with_reducible refine below_two ?_ (by with_reducible assumption)) | go_size))⟩

theorem sready_any (l : List Wt) (L c : Nat) (A : Option Addr) (d : Int) (hlL : l.length = L) (hLc : L ≤ c) (w : World) (hA : WRow w A l) :
    Calls Try.prog 4 #[.slice A L c, .int .i64 d] w fun e w' => e = .returned (.bool true) ∧ Below w.heap.size w w' := by
  obtain ⟨n, h1, h2, h3⟩ := min_nat L
  have hn : (l.take n).length = n := by rw [List.length_take]; omega
  by_cases h0 : errC (l.take n) = 0
  · have hK := cutN_le d (l.take n)
    rw [hn] at hK
    exact sready_ok (l.take n) L n c A d hLc h1 h2 h3 (Lib.hid hn) (Lib.hid h0) _ _ (Lib.hid rfl) hK (Lib.hid rfl) (Nat.sub_le _ _) w (hA.take n)
  · exact sready_err (l.take n) L n c A d hLc h1 h2 h3 (Lib.hid hn) _ (Lib.hid rfl) h0 w (hA.take n)

end Go.Proofs.Ythfnnlcfakkabaa
