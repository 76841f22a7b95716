/-
  The walk of the law LayoutApart.
-/
import Derived.Test.YtibpaomkaknbhaaWalkG
namespace Go.Proofs.Ytibpaomkaknbhaa
open Go.RowKit

theorem bring_b (i n : Int) (hn : 1 ≤ n) (hn' : n ≤ 4611686018427387904) (w : World) : Calls Try.prog 11 #[.int .i64 i, .int .i64 n] w fun e w' =>
    e = .returned (.int .i64 (i % n)) ∧ Below w.heap.size w w' := by
  refine (bring_any i n hn hn' w).mono ?_
  rintro e w' ⟨rfl, rfl⟩
  exact ⟨rfl, Below.refl _ _⟩
theorem bring_k (i n : Int) (k : Nat) (hk : i % n = k) (hn : 1 ≤ n) (hn' : n ≤ 4611686018427387904) (w : World) : Calls Try.prog 11 #[.int .i64 i, .int .i64 n] w fun e w' =>
    e = .returned (.int .i64 k) ∧ Below w.heap.size w w' := hk ▸ bring_b i n hn hn' w

theorem bring_i (i n r : Int) (hk : i % n = r) (hn : 1 ≤ n) (hn' : n ≤ 4611686018427387904) (w : World) : Calls Try.prog 11 #[.int .i64 i, .int .i64 n] w fun e w' =>
    e = .returned (.int .i64 r) ∧ Below w.heap.size w w' := hk ▸ bring_b i n hn hn' w

theorem of_err {s a : Int} {g : Bool} (hk : okL s a = true) (h : (ofF s a g).2 ≠ 0) : ofF s a g = (lay0, 150) ∧ g = true := by
  unfold ofF at h ⊢
  rw [if_pos hk] at h ⊢
  rcases scan_err (bodyOf s a g) 4 0 none with h' | h'
  · exact absurd h' h
  · refine ⟨h', ?_⟩
    cases g
    · obtain ⟨k1, k2, k3⟩ := (okL_iff s a).1 hk
      have hst : (bodyOf s a false).st ≤ 2048 ∧ 1 ≤ (bodyOf s a false).st := by
        have u := upb (n := s) (m := max 8 a) (by omega)
        have e : (bodyOf s a false).st = upI s (max 8 a) := rfl
        rw [e]
        have hm : max 8 a = 8 ∨ max 8 a = 16 ∨ max 8 a = 32 ∨ max 8 a = 64 := by omega
        rcases hm with hm | hm | hm | hm
        all_goals
          rw [hm] at u ⊢
          omega
      have h3 : (slabF (bodyOf s a false) 3).obj ≠ 0 := by
        have e : (slabF (bodyOf s a false) 3).obj = min (bytesO 3 / (bodyOf s a false).st) 16 := rfl
        have e2 : bytesO 3 = 2048 := by decide
        have h6 : 1 ≤ 2048 / (bodyOf s a false).st := Int.le_ediv_of_mul_le (by omega) (by omega)
        rw [e, e2]
        omega
      exact absurd (scan_any _ h3 4 0 none rfl (by omega)) h
    · rfl

theorem al_pow {k : Nat} (h : k < 7) : alB (wrap64 (1 * 2 ^ k)) = true := by
  obtain rfl | rfl | rfl | rfl | rfl | rfl | rfl : k = 0 ∨ k = 1 ∨ k = 2 ∨ k = 3 ∨ k = 4 ∨ k = 5 ∨ k = 6 := by omega
  all_goals decide +kernel

/-- Object i of a layout: it begins at a multiple, and lies between its neighbours. -/
theorem at_lies {s a : Int} {g : Bool} {l : Lay} (h : Is s a g l) {i : Int} (h1 : i < l.obj) :
    (i * l.st + l.off) % a = 0 ∧ (i + 1) * l.st = i * l.st + l.st ∧ (i + 1) * l.st ≤ bytesO l.ord.toNat ∧ (if g = true then l.off ≥ 8 ∧ l.off + s + 8 ≤ l.st else l.off = 0 ∧ s ≤ l.st) := by
  have ha := al_cases h.a1
  have u1 := upb (n := 8) (m := a) (by omega)
  have u2 := upb (n := netOf s a g) (m := max 8 a) (by omega)
  rw [← h.st] at u2
  refine ⟨?_, by rw [Int.add_mul, Int.one_mul], ?_, ?_⟩
  · have d1 : a ∣ l.st := by
      have d0 : max 8 a ∣ l.st := Int.dvd_of_emod_eq_zero u2.2.2
      refine Int.dvd_trans ?_ d0
      rcases (alB_iff a).1 h.a1 with e | e | e | e | e | e | e
      all_goals (subst e; decide)
    have d2 : a ∣ l.off := by
      rw [h.off]
      unfold offOf
      split
      · exact Int.dvd_of_emod_eq_zero u1.2.2
      · exact Int.dvd_zero a
    exact Int.emod_eq_zero_of_dvd (Int.dvd_add (Int.dvd_trans d1 (Int.dvd_mul_left i l.st)) d2)
  · have w1 := h.was
    have w2 := h.was0
    have : (i + 1) * l.st ≤ l.obj * l.st := Int.mul_le_mul_of_nonneg_right (by omega) (by have := h.st1; omega)
    omega
  · have o := h.off
    unfold netOf at u2
    unfold offOf at o
    cases g
    · rw [if_neg Bool.false_ne_true] at u2 o ⊢
      exact ⟨o, u2.1⟩
    · rw [if_pos rfl] at u2 o ⊢
      omega


theorem apart_at {n al : Int} {g : Bool} {l : Lay} {i : Nat} {last B : Int} (hI : Is n al g l) (hm : mayF l = true) (h1 : (i : Int) < l.obj) (hL : last ≤ (i : Int) * l.st) (hB : B = bytesO l.ord.toNat) :
    ∃ v, atF l i = (v, 0) ∧ (if g = true then last ≤ v - 8 ∧ v + n + 8 ≤ B ∧ v + n + 8 ≤ ((i + 1 : Nat) : Int) * l.st else last ≤ v ∧ v + n ≤ B ∧ v + n ≤ ((i + 1 : Nat) : Int) * l.st) ∧ 0 ≤ v ∧ v ≤ 50000 ∧ (v % al != 0) = false := by
  obtain ⟨l1, l2, l3, l4⟩ := at_lies hI (i := (i : Int)) h1
  have hoff := hI.off1
  have hst := hI.st1
  have hobj := hI.obj
  have hmb := mul_bd (i := (i : Int)) (n := l.obj) (st := l.st) (by omega) h1 hobj.2 hst.1 hst.2
  have hc : ((i + 1 : Nat) : Int) * l.st = (i : Int) * l.st + l.st := by rw [Int.natCast_add]; exact l2
  rw [hc]
  rw [l2, ← hB] at l3
  refine ⟨(i : Int) * l.st + l.off, ?_, ?_, by omega, by omega, by rw [l1]; rfl⟩
  · unfold atF
    rw [if_pos hm, if_pos ⟨by omega, h1⟩]
  · clear hI hm hB l1 l2 hc
    generalize (i : Int) * l.st = p at *
    cases g
    · rw [if_neg Bool.false_ne_true] at l4 ⊢
      omega
    · rw [if_pos rfl] at l4 ⊢
      omega

theorem apart_end {n al : Int} {g : Bool} {l : Lay} {B : Int} (hI : Is n al g l) (hB : B = bytesO l.ord.toNat) : l.was = B - l.obj * l.st ∧ 0 ≤ l.obj * l.st ∧ l.obj * l.st ≤ 48000 := by
  have hst := hI.st1
  have hobj := hI.obj
  have h := hI.was
  rw [← hB] at h
  have hm0 : 0 ≤ l.obj * l.st := Int.mul_nonneg (by omega) (by omega)
  have hm1 : l.obj * l.st ≤ 16 * l.st := Int.mul_le_mul_of_nonneg_right hobj.2 (by omega)
  omega

set_option maxHeartbeats 1000000 in
theorem apart_no (s a : Int) (n k : Nat) (hn : s % 2048 = n) (hk : a % 7 = k) (_hn' : n < 2048) (_hk' : k < 7) (al : Int) (hal : Hid (wrap64 (2 ^ k) = al)) (hab : 1 ≤ al ∧ al ≤ 64)
    (sz al' st off ord obj was : Int) (HX : Hid (ofF (1 + n) al false = (⟨sz, al', st, off, ord, obj, was⟩, 0))) (HI : Hid (Is (1 + n) al false ⟨sz, al', st, off, ord, obj, was⟩)) (HM : Hid (mayF ⟨sz, al', st, off, ord, obj, was⟩ = true))
    (_hst : 8 ≤ st ∧ st ≤ 3000) (_hoff : 0 ≤ off ∧ off ≤ 100) (hobj : 1 ≤ obj ∧ obj ≤ 16) (hwas : 0 ≤ was) (q : Nat) (hq4 : ord % 4 = q) (hord : 0 ≤ ord ∧ ord ≤ 3) (B : Int) (HO : Hid (B = bytesO ord.toNat))
    (HB : Hid (wrap64 (256 * 2 ^ q) = B)) (hbl : 0 ≤ B ∧ B ≤ 2048) (w : World) : Calls Try.prog 4 #[.int .i64 s, .int .i64 a, .bool false] w fun e w' =>
    e = .returned (.bool true) ∧ Below w.heap.size w w' := by
  go_enter Try.func4, Try.ntmps4
  go_wp2
  (refine wp_region_ext (w.heap.size) (by kernel_rfl) (by kernel_rfl) (by go_size) (fun hxc hxf hxh hxn => ?_); (repeat (first | go_big_quiet_step (first | (go_at_call 11; with_reducible exact ext_call (bring_k s 2048 n hn (by omega) (by omega) _)) | (go_at_call 11; with_reducible exact ext_call (bring_k a 7 k hk (by omega) (by omega) _))) | quiet_step (first | (go_at_call 11; with_reducible exact ext_call (bring_k s 2048 n hn (by omega) (by omega) _)) | (go_at_call 11; with_reducible exact ext_call (bring_k a 7 k hk (by omega) (by omega) _))))); refine wpQuiet_nil ?_; intro w1 hs1; clear hxc hxf hxh hxn; obtain ⟨hb1, hz1, hc1, hf1⟩ := ext_known hs1 (w.heap.size) (by go_size); clear hs1)
  rw [hal.out]
  go_wp2_with (first | (go_at_call 8; with_reducible refine (of_at (1 + n) al false _ _ _ _ _ _ _ _ HX.out _).mono ?_; rintro e w2 ⟨rfl, hb2⟩) | (go_at_call 11; with_reducible refine (bring_k ord 4 q hq4 (by omega) (by omega) _).mono ?_; rintro e w3 ⟨rfl, hb3⟩; have p1 := (Blk.new w2 23 _).below hb3))
  rw [HB.out]
  have z3 := hb3.size
  rw [World.size_alloc] at z3
  have z2 := hb2.size
  have z1 := hb1.size
  go_loopw [13, 12] (fun j t wr => ∃ (i : Nat) (last : Int), (i : Int) ≤ obj ∧ j = .int .i64 i ∧ t = .int .i64 last ∧ 0 ≤ last ∧ last ≤ 100000 ∧ Hid (last ≤ i * st) ∧ Blk wr w2.heap.size 23 #[.int .i64 sz, .int .i64 al', .int .i64 st, .int .i64 off, .int .i64 ord, .int .i64 obj, .int .i64 was] ∧ Below w.heap.size w wr) (fun j _ _ => obj.toNat - (intOf j).toNat)
  case atStart => exact ⟨0, 0, by omega, rfl, rfl, by omega, by omega, Lib.hid (by simp), p1, by (repeat' (first | (with_reducible exact Below.refl _ _) | (with_reducible assumption) | (with_reducible refine Below.alloc ?_ ?_ _) | (with_reducible refine below_drewN ?_ _) | (with_reducible refine Below.drew ?_) | (with_reducible refine Below.setCell ?_ ?_ _) | (with_reducible refine below_two ?_ (by with_reducible assumption)) | go_size))⟩
  case round =>
    obtain ⟨i, last, hi, rfl, rfl, hl0, hl1, HL, p1, hw⟩ := hrel
    have hz := hw.size
    have n1 := p1.lt
    have c1 := p1.cell
    by_cases hlt : (i : Int) < obj
    · obtain ⟨v, hat, gg, g3, g4, g5⟩ := apart_at HI.out HM.out hlt HL.out HO.out
      rw [if_neg Bool.false_ne_true] at gg
      obtain ⟨g1, g2, hr⟩ := gg
      have HA := Lib.hid hat
      have HR := Lib.hid hr
      clear hat hr
      go_wp2_with (first | (go_at_call 12; with_reducible refine (at_at _ _ _ _ _ _ _ _ _ _ HA.out _).mono ?_; rintro e w4 ⟨rfl, hb4⟩))
      go_roundw
      case rel => exact ⟨i + 1, v + (1 + ↑n), by omega, by go_num, rfl, by omega, by omega, HR, p1.below hb4, by (repeat' (first | (with_reducible exact Below.refl _ _) | (with_reducible assumption) | (with_reducible refine Below.alloc ?_ ?_ _) | (with_reducible refine below_drewN ?_ _) | (with_reducible refine Below.drew ?_) | (with_reducible refine Below.setCell ?_ ?_ _) | (with_reducible refine below_two ?_ (by with_reducible assumption)) | go_size))⟩
      case measure => simp [intOf]; omega
    · have hio : (i : Int) = obj := by omega
      obtain ⟨hsum, hm0, hm1⟩ := apart_end HI.out HO.out
      replace hsum : was = B - obj * st := hsum
      replace hm0 : 0 ≤ obj * st := hm0
      replace hm1 : obj * st ≤ 48000 := hm1
      go_wp2_with (first | (go_at_call 10; with_reducible refine (works_any _).mono ?_; rintro e w4 ⟨rfl, hb4⟩))
      go_ret
      exact ⟨rfl, by (repeat' (first | (with_reducible exact Below.refl _ _) | (with_reducible assumption) | (with_reducible refine Below.alloc ?_ ?_ _) | (with_reducible refine below_drewN ?_ _) | (with_reducible refine Below.drew ?_) | (with_reducible refine Below.setCell ?_ ?_ _) | (with_reducible refine below_two ?_ (by with_reducible assumption)) | go_size))⟩

set_option maxHeartbeats 1000000 in
theorem apart_yes (s a : Int) (n k : Nat) (hn : s % 2048 = n) (hk : a % 7 = k) (_hn' : n < 2048) (_hk' : k < 7) (al : Int) (hal : Hid (wrap64 (2 ^ k) = al)) (hab : 1 ≤ al ∧ al ≤ 64)
    (sz al' st off ord obj was : Int) (HX : Hid (ofF (1 + n) al true = (⟨sz, al', st, off, ord, obj, was⟩, 0))) (HI : Hid (Is (1 + n) al true ⟨sz, al', st, off, ord, obj, was⟩)) (HM : Hid (mayF ⟨sz, al', st, off, ord, obj, was⟩ = true))
    (_hst : 8 ≤ st ∧ st ≤ 3000) (_hoff : 0 ≤ off ∧ off ≤ 100) (hobj : 1 ≤ obj ∧ obj ≤ 16) (hwas : 0 ≤ was) (q : Nat) (hq4 : ord % 4 = q) (hord : 0 ≤ ord ∧ ord ≤ 3) (B : Int) (HO : Hid (B = bytesO ord.toNat))
    (HB : Hid (wrap64 (256 * 2 ^ q) = B)) (hbl : 0 ≤ B ∧ B ≤ 2048) (w : World) : Calls Try.prog 4 #[.int .i64 s, .int .i64 a, .bool true] w fun e w' =>
    e = .returned (.bool true) ∧ Below w.heap.size w w' := by
  go_enter Try.func4, Try.ntmps4
  go_wp2
  (refine wp_region_ext (w.heap.size) (by kernel_rfl) (by kernel_rfl) (by go_size) (fun hxc hxf hxh hxn => ?_); (repeat (first | go_big_quiet_step (first | (go_at_call 11; with_reducible exact ext_call (bring_k s 2048 n hn (by omega) (by omega) _)) | (go_at_call 11; with_reducible exact ext_call (bring_k a 7 k hk (by omega) (by omega) _))) | quiet_step (first | (go_at_call 11; with_reducible exact ext_call (bring_k s 2048 n hn (by omega) (by omega) _)) | (go_at_call 11; with_reducible exact ext_call (bring_k a 7 k hk (by omega) (by omega) _))))); refine wpQuiet_nil ?_; intro w1 hs1; clear hxc hxf hxh hxn; obtain ⟨hb1, hz1, hc1, hf1⟩ := ext_known hs1 (w.heap.size) (by go_size); clear hs1)
  rw [hal.out]
  go_wp2_with (first | (go_at_call 8; with_reducible refine (of_at (1 + n) al true _ _ _ _ _ _ _ _ HX.out _).mono ?_; rintro e w2 ⟨rfl, hb2⟩) | (go_at_call 11; with_reducible refine (bring_k ord 4 q hq4 (by omega) (by omega) _).mono ?_; rintro e w3 ⟨rfl, hb3⟩; have p1 := (Blk.new w2 23 _).below hb3))
  rw [HB.out]
  have z3 := hb3.size
  rw [World.size_alloc] at z3
  have z2 := hb2.size
  have z1 := hb1.size
  go_loopw [13, 12] (fun j t wr => ∃ (i : Nat) (last : Int), (i : Int) ≤ obj ∧ j = .int .i64 i ∧ t = .int .i64 last ∧ 0 ≤ last ∧ last ≤ 100000 ∧ Hid (last ≤ i * st) ∧ Blk wr w2.heap.size 23 #[.int .i64 sz, .int .i64 al', .int .i64 st, .int .i64 off, .int .i64 ord, .int .i64 obj, .int .i64 was] ∧ Below w.heap.size w wr) (fun j _ _ => obj.toNat - (intOf j).toNat)
  case atStart => exact ⟨0, 0, by omega, rfl, rfl, by omega, by omega, Lib.hid (by simp), p1, by (repeat' (first | (with_reducible exact Below.refl _ _) | (with_reducible assumption) | (with_reducible refine Below.alloc ?_ ?_ _) | (with_reducible refine below_drewN ?_ _) | (with_reducible refine Below.drew ?_) | (with_reducible refine Below.setCell ?_ ?_ _) | (with_reducible refine below_two ?_ (by with_reducible assumption)) | go_size))⟩
  case round =>
    obtain ⟨i, last, hi, rfl, rfl, hl0, hl1, HL, p1, hw⟩ := hrel
    have hz := hw.size
    have n1 := p1.lt
    have c1 := p1.cell
    by_cases hlt : (i : Int) < obj
    · obtain ⟨v, hat, gg, g3, g4, g5⟩ := apart_at HI.out HM.out hlt HL.out HO.out
      rw [if_pos rfl] at gg
      obtain ⟨g1, g2, hr⟩ := gg
      have HA := Lib.hid hat
      have HR := Lib.hid hr
      clear hat hr
      go_wp2_with (first | (go_at_call 12; with_reducible refine (at_at _ _ _ _ _ _ _ _ _ _ HA.out _).mono ?_; rintro e w4 ⟨rfl, hb4⟩))
      go_roundw
      case rel => exact ⟨i + 1, v + (1 + ↑n) + 8, by omega, by go_num, rfl, by omega, by omega, HR, p1.below hb4, by (repeat' (first | (with_reducible exact Below.refl _ _) | (with_reducible assumption) | (with_reducible refine Below.alloc ?_ ?_ _) | (with_reducible refine below_drewN ?_ _) | (with_reducible refine Below.drew ?_) | (with_reducible refine Below.setCell ?_ ?_ _) | (with_reducible refine below_two ?_ (by with_reducible assumption)) | go_size))⟩
      case measure => simp [intOf]; omega
    · have hio : (i : Int) = obj := by omega
      obtain ⟨hsum, hm0, hm1⟩ := apart_end HI.out HO.out
      replace hsum : was = B - obj * st := hsum
      replace hm0 : 0 ≤ obj * st := hm0
      replace hm1 : obj * st ≤ 48000 := hm1
      go_wp2_with (first | (go_at_call 10; with_reducible refine (works_any _).mono ?_; rintro e w4 ⟨rfl, hb4⟩))
      go_ret
      exact ⟨rfl, by (repeat' (first | (with_reducible exact Below.refl _ _) | (with_reducible assumption) | (with_reducible refine Below.alloc ?_ ?_ _) | (with_reducible refine below_drewN ?_ _) | (with_reducible refine Below.drew ?_) | (with_reducible refine Below.setCell ?_ ?_ _) | (with_reducible refine below_two ?_ (by with_reducible assumption)) | go_size))⟩

theorem apart_err (s a : Int) (n k : Nat) (hn : s % 2048 = n) (hk : a % 7 = k) (_hn' : n < 2048) (_hk' : k < 7) (al : Int) (hal : Hid (wrap64 (2 ^ k) = al)) (_hab : 1 ≤ al ∧ al ≤ 64)
    (HX' : Hid (ofF (1 + n) al true = (⟨0, 0, 0, 0, 0, 0, 0⟩, 150))) (w : World) : Calls Try.prog 4 #[.int .i64 s, .int .i64 a, .bool true] w fun e w' =>
    e = .returned (.bool true) ∧ Below w.heap.size w w' := by
  go_enter Try.func4, Try.ntmps4
  go_wp2
  (refine wp_region_ext (w.heap.size) (by kernel_rfl) (by kernel_rfl) (by go_size) (fun hxc hxf hxh hxn => ?_); (repeat (first | go_big_quiet_step (first | (go_at_call 11; with_reducible exact ext_call (bring_k s 2048 n hn (by omega) (by omega) _)) | (go_at_call 11; with_reducible exact ext_call (bring_k a 7 k hk (by omega) (by omega) _))) | quiet_step (first | (go_at_call 11; with_reducible exact ext_call (bring_k s 2048 n hn (by omega) (by omega) _)) | (go_at_call 11; with_reducible exact ext_call (bring_k a 7 k hk (by omega) (by omega) _))))); refine wpQuiet_nil ?_; intro w1 hs1; clear hxc hxf hxh hxn; obtain ⟨hb1, hz1, hc1, hf1⟩ := ext_known hs1 (w.heap.size) (by go_size); clear hs1)
  rw [hal.out]
  go_wp2_with (first | (go_at_call 8; with_reducible refine (of_at (1 + n) al true _ _ _ _ _ _ _ _ HX'.out _).mono ?_; rintro e w2 ⟨rfl, hb2⟩) | (go_at_call 10; with_reducible refine (works_any _).mono ?_; rintro e w3 ⟨rfl, hb3⟩))
  have z2 := hb2.size
  go_ret
  exact ⟨rfl, by (repeat' (first | (with_reducible exact Below.refl _ _) | (with_reducible assumption) | (with_reducible refine Below.alloc ?_ ?_ _) | (with_reducible refine below_drewN ?_ _) | (with_reducible refine Below.drew ?_) | (with_reducible refine Below.setCell ?_ ?_ _) | (with_reducible refine below_two ?_ (by with_reducible assumption)) | go_size))⟩


theorem layoutApart_any (s a : Int) (g : Bool) (w : World) : Calls Try.prog 4 #[.int .i64 s, .int .i64 a, .bool g] w fun e w' =>
    e = .returned (.bool true) ∧ Below w.heap.size w w' := by
  obtain ⟨n, hn⟩ : ∃ n : Nat, s % 2048 = n := ⟨(s % 2048).toNat, by omega⟩
  obtain ⟨k, hk⟩ : ∃ k : Nat, a % 7 = k := ⟨(a % 7).toNat, by omega⟩
  have hn' : n < 2048 := by omega
  have hk' : k < 7 := by omega
  obtain ⟨al, hal⟩ : ∃ al, wrap64 (2 ^ k) = al := ⟨_, rfl⟩
  have hB : alB al = true := by
    have := al_pow hk'
    rwa [Int.one_mul, hal] at this
  have hab := al_cases hB
  have hok : okL (1 + n) al = true := by
    rw [okL_iff]
    exact ⟨by omega, by omega, (alB_iff al).1 hB⟩
  rcases hx : ofF (1 + n) al g with ⟨⟨sz, al', st, off, ord, obj, was⟩, e⟩
  have HX := Lib.hid hx
  by_cases he : e = 0
  · subst he
    have hI : Is (1 + n) al g ⟨sz, al', st, off, ord, obj, was⟩ := by
      have := ofF_is (s := 1 + n) (a := al) (g := g) (by rw [hx])
      rwa [hx] at this
    have hm : mayF ⟨sz, al', st, off, ord, obj, was⟩ = true := by
      have := of_may (s := 1 + n) (a := al) (g := g) (by rw [hx])
      rwa [hx] at this
    have hst : 8 ≤ st ∧ st ≤ 3000 := hI.st1
    have hoff : 0 ≤ off ∧ off ≤ 100 := hI.off1
    have hobj : 1 ≤ obj ∧ obj ≤ 16 := hI.obj
    have hord : 0 ≤ ord ∧ ord ≤ 3 := hI.ord
    have hwas : 0 ≤ was := hI.was0
    obtain ⟨q, hq⟩ : ∃ q : Nat, ord = q := ⟨ord.toNat, by omega⟩
    have hq4 : ord % 4 = q := by omega
    have hoq : ord.toNat = q := by omega
    have hbl : bytesO q ≤ 2048 := bytes_le (by omega)
    have hb0 := bytesO_pos q
    have hby := Lib.hid (wrap_bytes (k := q) (by omega))
    have hO : Hid (bytesO q = bytesO ord.toNat) := Lib.hid (by rw [hoq])
    cases g
    · exact apart_no s a n k hn hk hn' hk' al (Lib.hid hal) hab sz al' st off ord obj was HX (Lib.hid hI) (Lib.hid hm) hst hoff hobj hwas q hq4 hord (bytesO q) hO hby ⟨by omega, hbl⟩ w
    · exact apart_yes s a n k hn hk hn' hk' al (Lib.hid hal) hab sz al' st off ord obj was HX (Lib.hid hI) (Lib.hid hm) hst hoff hobj hwas q hq4 hord (bytesO q) hO hby ⟨by omega, hbl⟩ w
  · obtain ⟨h1, h2⟩ := of_err (g := g) hok (by rw [hx]; exact he)
    subst h2
    exact apart_err s a n k hn hk hn' hk' al (Lib.hid hal) hab (Lib.hid h1) w

end Go.Proofs.Ytibpaomkaknbhaa
