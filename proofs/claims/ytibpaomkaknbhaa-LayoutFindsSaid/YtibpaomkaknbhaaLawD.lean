/-
  The walk of the law LayoutFinds.
-/
import Derived.Test.YtibpaomkaknbhaaLawB
import Derived.Deep.RegionHeld3
import Derived.Deep.DeepCutAuto
namespace Go.Proofs.Ytibpaomkaknbhaa
open Go.RowKit

theorem ix_yes {l : Lay} {k i : Int} (h : ixF l k = (i, true)) : 0 ≤ i ∧ i < l.obj ∧ k = i * l.st + l.off := by
  unfold ixF at h
  split at h
  · rename_i hc
    obtain ⟨hm, h1, h2, h3⟩ := hc
    have hst := (may_is hm).st1
    simp only [Prod.mk.injEq, and_true] at h
    subst h
    have hd := Int.mul_ediv_add_emod (k - l.off) l.st
    rw [h2, Int.mul_comm] at hd
    exact ⟨Int.ediv_nonneg (by omega) (by omega), h3, by omega⟩
  · simp at h

/-- Object j of a layout, and the one that begins at k. -/
theorem finds_step {l : Lay} {k i : Int} {b : Bool} (hm : mayF l = true) (hx : ixF l k = (i, b)) {j : Nat} (hj : (j : Int) < l.obj) :
    ∃ v, atF l j = (v, 0) ∧ ixF l v = ((j : Int), true) ∧ 0 ≤ v ∧ v ≤ 50000 ∧ (b = true → (v = k ↔ i = j)) := by
  have hI := may_is hm
  have hst := hI.st1
  have hobj := hI.obj
  have hoff := hI.off1
  have hp := mul_bd (i := (j : Int)) (n := l.obj) (st := l.st) (by omega) hj hobj.2 hst.1 hst.2
  have ha : atF l j = ((j : Int) * l.st + l.off, 0) := by
    unfold atF
    rw [if_pos hm, if_pos ⟨by omega, hj⟩]
  refine ⟨(j : Int) * l.st + l.off, ha, ix_hit ha, by omega, by omega, ?_⟩
  rintro rfl
  obtain ⟨h1, h2, h3⟩ := ix_yes hx
  constructor
  · intro h
    have h4 : (j : Int) * l.st = i * l.st := by omega
    exact (Int.eq_of_mul_eq_mul_right (by omega) h4).symm
  · rintro rfl
    exact h3.symm

theorem ix_bd {l : Lay} {k i : Int} {b : Bool} (hm : mayF l = true) (hx : ixF l k = (i, b)) : 0 ≤ i ∧ i ≤ 16 := by
  cases b
  · unfold ixF at hx
    split at hx
    · simp at hx
    · simp only [Prod.mk.injEq, and_true] at hx
      omega
  · have := ix_yes hx
    have := (may_is hm).obj
    omega

theorem bring_w (i n r : Int) (h : i % n = r) (hn : 1 ≤ n) (hn' : n ≤ 4611686018427387904) (w : World) : Calls Try.prog 11 #[.int .i64 i, .int .i64 n] w fun e w' =>
    e = .returned (.int .i64 r) ∧ w' = w := h ▸ bring_any i n hn hn' w

set_option maxRecDepth 100000 in
set_option maxHeartbeats 2000000 in
theorem finds_ok (s a t gi : Int) (g : Bool) (n k : Nat) (hn : s % 2048 = n) (hk : a % 7 = k) (hg : t % 2 = gi) (hgi : gi = 0 ∧ g = false ∨ gi = 1 ∧ g = true) (hn' : n < 2048) (hk' : k < 7)
    (sz al' st off ord obj was : Int) (X Y : Int) (hX : IntKind.i64.wrap (1 + n) = X) (hY : IntKind.i64.wrap (2 ^ k) = Y) (HX : Hid (ofF X Y g = (⟨sz, al', st, off, ord, obj, was⟩, 0))) (HM : Hid (mayF ⟨sz, al', st, off, ord, obj, was⟩ = true))
    (hobj : 1 ≤ obj ∧ obj ≤ 16) (u : Int) (hu : t % 2100 = u) (hu0 : 0 ≤ u ∧ u < 2100) (i : Int) (b : Bool) (HY : Hid (ixF ⟨sz, al', st, off, ord, obj, was⟩ (u - 20) = (i, b))) (hi : 0 ≤ i ∧ i ≤ 16) (w : World) :
    Calls Try.prog 6 #[.int .i64 s, .int .i64 a, .int .i64 t] w fun e w' => e = .returned (.bool true) ∧ Below w.heap.size w w' := by
  have HG := Lib.hid hg
  have HN := Lib.hid hn
  have HK := Lib.hid hk
  have HU := Lib.hid hu
  clear hg hn hk hu
  rcases hgi with ⟨rfl, rfl⟩ | ⟨rfl, rfl⟩
  all_goals
    go_enter Try.func6, Try.ntmps6
    go_upto_region 1 with fail
    go_cut [7, 8] (fun p e wx => ∃ G : Nat, p = .pointer (some ⟨G, 0, none⟩) ∧ e = .int .i64 0 ∧ w.heap.size ≤ G ∧ Blk wx G 23 #[.int .i64 sz, .int .i64 al', .int .i64 st, .int .i64 off, .int .i64 ord, .int .i64 obj, .int .i64 was] ∧ Below w.heap.size w wx)
    case first =>
      go_region_held3 (fun _ => True) (trivial) (first | (go_at_call 11; with_reducible refine (bring_w s 2048 n HN.out (by omega) (by omega) _).mono ?_; rintro e w0 ⟨rfl, hw0⟩; replace hw0 := hw0.symm; subst hw0) | (go_at_call 11; with_reducible refine (bring_w a 7 k HK.out (by omega) (by omega) _).mono ?_; rintro e w0 ⟨rfl, hw0⟩; replace hw0 := hw0.symm; subst hw0) | (go_at_call 11; with_reducible refine (bring_w t 2 _ HG.out (by omega) (by omega) _).mono ?_; rintro e w0 ⟨rfl, hw0⟩; replace hw0 := hw0.symm; subst hw0) | (go_at_call 8; with_reducible refine (of_at _ _ _ _ _ _ _ _ _ _ _ HX.out _).mono ?_; rintro e w1 ⟨rfl, hb1⟩; (try (have p1 : Blk w1 w.heap.size 23 #[.int .i64 0, .int .i64 0, .int .i64 0, .int .i64 0, .int .i64 0, .int .i64 0, .int .i64 0] := ((Blk.new w 23 _).drew).below hb1; have n1 := p1.lt; have c1 := p1.cell; have d1 := p1.frozen))))
      all_goals
        go_wp2_with fail
        go_meet
        first
        | exact ⟨w1.heap.size, rfl, rfl, hb1.size, Blk.new w1 23 _, by (have z1 : w.heap.size ≤ w1.heap.size := hb1.size); (repeat' (first | (with_reducible exact Below.refl _ _) | (with_reducible assumption) | (with_reducible refine Below.alloc ?_ ?_ _) | (with_reducible refine below_drewN ?_ _) | (with_reducible refine Below.drew ?_) | (with_reducible refine Below.setCell ?_ ?_ _) | (with_reducible refine below_two ?_ (by with_reducible assumption)) | go_size))⟩
        | exact ⟨w.heap.size, rfl, rfl, Nat.le_refl _, ((((((p1.set_ 0 _).set_ 1 _).set_ 2 _).set_ 3 _).set_ 4 _).set_ 5 _).set_ 6 _, by (have z1 : w.heap.size ≤ w1.heap.size := Nat.le_of_lt p1.lt); (repeat' (first | (with_reducible exact Below.refl _ _) | (with_reducible assumption) | (with_reducible refine Below.alloc ?_ ?_ _) | (with_reducible refine below_drewN ?_ _) | (with_reducible refine Below.drew ?_) | (with_reducible refine Below.setCell ?_ ?_ _) | (with_reducible refine below_two ?_ (by with_reducible assumption)) | go_size))⟩
    case rest =>
      obtain ⟨G, rfl, rfl, hG, p1, hw⟩ := hcut
      have n1 := p1.lt
      have c1 := p1.cell
      go_wp2_with (first | (go_at_call 11; with_reducible refine (bring_i t 2100 u HU.out (by omega) (by omega) _).mono ?_; rintro e w2 ⟨rfl, hb2⟩; have p1 := p1.below hb2; have n1 := p1.lt; have c1 := p1.cell; have z2 := hb2.size) | (go_at_call 14; with_reducible refine (index_at _ _ _ _ _ _ _ _ _ _ (by omega) HY.out _).mono ?_; rintro e w3 ⟨rfl, hb3⟩; have p1 := p1.below hb3; have z3 := hb3.size))
      have q0 : Below w.heap.size w w3 := by (repeat' (first | (with_reducible exact Below.refl _ _) | (with_reducible assumption) | (with_reducible refine Below.alloc ?_ ?_ _) | (with_reducible refine below_drewN ?_ _) | (with_reducible refine Below.drew ?_) | (with_reducible refine Below.setCell ?_ ?_ _) | (with_reducible refine below_two ?_ (by with_reducible assumption)) | go_size))
      clear hw
      cases b
      · go_loopw [13, 12] (fun j t wr => ∃ m : Nat, (m : Int) ≤ obj ∧ j = .int .i64 m ∧ t = .bool false ∧ Blk wr G 23 #[.int .i64 sz, .int .i64 al', .int .i64 st, .int .i64 off, .int .i64 ord, .int .i64 obj, .int .i64 was] ∧ Below w.heap.size w wr) (fun j _ _ => obj.toNat - (intOf j).toNat)
        case atStart => exact ⟨0, by omega, rfl, rfl, p1, q0⟩
        case round =>
          obtain ⟨m, hm, rfl, rfl, p1, hw⟩ := hrel
          have hz := hw.size
          have n1 := p1.lt
          have c1 := p1.cell
          by_cases hlt : (m : Int) < obj
          · obtain ⟨v, ha, hx, v0, v1, -⟩ := finds_step HM.out HY.out hlt
            have HA := Lib.hid ha
            have HV := Lib.hid hx
            clear ha hx
            go_wp2_with (first | (go_at_call 12; with_reducible refine (at_at _ _ _ _ _ _ _ _ _ _ HA.out _).mono ?_; rintro e w4 ⟨rfl, hb4⟩; have p1 := p1.below hb4; have n1 := p1.lt; have c1 := p1.cell; have z4 := hb4.size) | (go_at_call 14; with_reducible refine (index_at _ _ _ _ _ _ _ _ _ _ (by omega) HV.out _).mono ?_; rintro e w5 ⟨rfl, hb5⟩; have p1 := p1.below hb5; have z5 := hb5.size))
            all_goals
              go_roundw
              case rel => exact ⟨m + 1, by omega, by go_num, rfl, p1, by (repeat' (first | (with_reducible exact Below.refl _ _) | (with_reducible assumption) | (with_reducible refine Below.alloc ?_ ?_ _) | (with_reducible refine below_drewN ?_ _) | (with_reducible refine Below.drew ?_) | (with_reducible refine Below.setCell ?_ ?_ _) | (with_reducible refine below_two ?_ (by with_reducible assumption)) | go_size))⟩
              case measure => simp [intOf]; omega
          · go_wp2_with (first | (go_at_call 10; with_reducible refine (works_any _).mono ?_; rintro e w4 ⟨rfl, hb4⟩))
            go_ret
            exact ⟨rfl, by (repeat' (first | (with_reducible exact Below.refl _ _) | (with_reducible assumption) | (with_reducible refine Below.alloc ?_ ?_ _) | (with_reducible refine below_drewN ?_ _) | (with_reducible refine Below.drew ?_) | (with_reducible refine Below.setCell ?_ ?_ _) | (with_reducible refine below_two ?_ (by with_reducible assumption)) | go_size))⟩
      · go_loopw [13, 12] (fun j t wr => ∃ m : Nat, (m : Int) ≤ obj ∧ j = .int .i64 m ∧ t = .bool (decide (i < m)) ∧ Blk wr G 23 #[.int .i64 sz, .int .i64 al', .int .i64 st, .int .i64 off, .int .i64 ord, .int .i64 obj, .int .i64 was] ∧ Below w.heap.size w wr) (fun j _ _ => obj.toNat - (intOf j).toNat)
        case atStart => exact ⟨0, by omega, rfl, by rw [decide_eq_false (by omega)], p1, q0⟩
        case round =>
          obtain ⟨m, hm, rfl, rfl, p1, hw⟩ := hrel
          have hz := hw.size
          have n1 := p1.lt
          have c1 := p1.cell
          by_cases hlt : (m : Int) < obj
          · obtain ⟨v, ha, hx, v0, v1, hv⟩ := finds_step HM.out HY.out hlt
            have HA := Lib.hid ha
            have HV := Lib.hid hx
            have hv' := hv rfl
            clear ha hx hv
            by_cases h1 : i < m
            · clear hv'
              go_wp2_with (first | (go_at_call 12; with_reducible refine (at_at _ _ _ _ _ _ _ _ _ _ HA.out _).mono ?_; rintro e w4 ⟨rfl, hb4⟩; have p1 := p1.below hb4; have n1 := p1.lt; have c1 := p1.cell; have z4 := hb4.size) | (go_at_call 14; with_reducible refine (index_at _ _ _ _ _ _ _ _ _ _ (by omega) HV.out _).mono ?_; rintro e w5 ⟨rfl, hb5⟩; have p1 := p1.below hb5; have z5 := hb5.size))
              go_roundw
              case rel => exact ⟨m + 1, by omega, by go_num, by rw [decide_eq_true (by omega)], p1, by (repeat' (first | (with_reducible exact Below.refl _ _) | (with_reducible assumption) | (with_reducible refine Below.alloc ?_ ?_ _) | (with_reducible refine below_drewN ?_ _) | (with_reducible refine Below.drew ?_) | (with_reducible refine Below.setCell ?_ ?_ _) | (with_reducible refine below_two ?_ (by with_reducible assumption)) | go_size))⟩
              case measure => simp [intOf]; omega
            · by_cases h2 : i = m
              · have hvk : v = u - 20 := hv'.2 h2
                have h3 : (v == u - 20) = true := by rw [beq_iff_eq]; exact hvk
                have h4 : (i == (m : Int)) = true := by rw [beq_iff_eq]; exact h2
                have H2 : i < ((m + 1 : Nat) : Int) := by omega
                clear hv' hvk h2
                go_wp2_with (first | (go_at_call 12; with_reducible refine (at_at _ _ _ _ _ _ _ _ _ _ HA.out _).mono ?_; rintro e w4 ⟨rfl, hb4⟩; have p1 := p1.below hb4; have n1 := p1.lt; have c1 := p1.cell; have z4 := hb4.size) | (go_at_call 14; with_reducible refine (index_at _ _ _ _ _ _ _ _ _ _ (by omega) HV.out _).mono ?_; rintro e w5 ⟨rfl, hb5⟩; have p1 := p1.below hb5; have z5 := hb5.size))
                go_roundw
                case rel => exact ⟨m + 1, by omega, by go_num, by rw [decide_eq_true H2], p1, by (repeat' (first | (with_reducible exact Below.refl _ _) | (with_reducible assumption) | (with_reducible refine Below.alloc ?_ ?_ _) | (with_reducible refine below_drewN ?_ _) | (with_reducible refine Below.drew ?_) | (with_reducible refine Below.setCell ?_ ?_ _) | (with_reducible refine below_two ?_ (by with_reducible assumption)) | go_size))⟩
                case measure => simp [intOf]; omega
              · have H2 : ¬ i < ((m + 1 : Nat) : Int) := by omega
                have h3 : (v == u - 20) = false := by rw [beq_eq_false_iff_ne]; exact fun h => h2 (hv'.1 h)
                clear hv'
                go_wp2_with (first | (go_at_call 12; with_reducible refine (at_at _ _ _ _ _ _ _ _ _ _ HA.out _).mono ?_; rintro e w4 ⟨rfl, hb4⟩; have p1 := p1.below hb4; have n1 := p1.lt; have c1 := p1.cell; have z4 := hb4.size) | (go_at_call 14; with_reducible refine (index_at _ _ _ _ _ _ _ _ _ _ (by omega) HV.out _).mono ?_; rintro e w5 ⟨rfl, hb5⟩; have p1 := p1.below hb5; have z5 := hb5.size))
                go_roundw
                case rel => exact ⟨m + 1, by omega, by go_num, by rw [show decide (i < ((m + 1 : Nat) : Int)) = false from decide_eq_false (by omega), show decide (i < (m : Int)) = false from decide_eq_false (by omega)], p1, by (repeat' (first | (with_reducible exact Below.refl _ _) | (with_reducible assumption) | (with_reducible refine Below.alloc ?_ ?_ _) | (with_reducible refine below_drewN ?_ _) | (with_reducible refine Below.drew ?_) | (with_reducible refine Below.setCell ?_ ?_ _) | (with_reducible refine below_two ?_ (by with_reducible assumption)) | go_size))⟩
                case measure => simp [intOf]; omega
          · have him : i < m := by
              have := (ix_yes HY.out).2.1
              simp only [] at this
              omega
            go_wp2_with (first | (go_at_call 10; with_reducible refine (works_any _).mono ?_; rintro e w4 ⟨rfl, hb4⟩))
            go_ret
            exact ⟨rfl, by (repeat' (first | (with_reducible exact Below.refl _ _) | (with_reducible assumption) | (with_reducible refine Below.alloc ?_ ?_ _) | (with_reducible refine below_drewN ?_ _) | (with_reducible refine Below.drew ?_) | (with_reducible refine Below.setCell ?_ ?_ _) | (with_reducible refine below_two ?_ (by with_reducible assumption)) | go_size))⟩

set_option maxRecDepth 100000 in
set_option maxHeartbeats 2000000 in
theorem finds_err (s a t gi : Int) (n k : Nat) (g : Bool) (hn : s % 2048 = n) (hk : a % 7 = k) (hg : t % 2 = gi) (hgi : gi = 0 ∧ g = false ∨ gi = 1 ∧ g = true) (_hn' : n < 2048) (_hk' : k < 7)
    (X Y : Int) (hX : IntKind.i64.wrap (1 + n) = X) (hY : IntKind.i64.wrap (2 ^ k) = Y) (HX : Hid (ofF X Y g = (⟨0, 0, 0, 0, 0, 0, 0⟩, 150))) (w : World) :
    Calls Try.prog 6 #[.int .i64 s, .int .i64 a, .int .i64 t] w fun e w' => e = .returned (.bool true) ∧ Below w.heap.size w w' := by
  have HG := Lib.hid hg
  have HN := Lib.hid hn
  have HK := Lib.hid hk
  clear hg hn hk
  rcases hgi with ⟨rfl, rfl⟩ | ⟨rfl, rfl⟩
  all_goals
    go_enter Try.func6, Try.ntmps6
    go_upto_region 1 with fail
    go_cut [7, 8] (fun p e wx => ∃ G : Nat, p = .pointer (some ⟨G, 0, none⟩) ∧ e = .int .i64 150 ∧ w.heap.size ≤ G ∧ Blk wx G 23 #[.int .i64 0, .int .i64 0, .int .i64 0, .int .i64 0, .int .i64 0, .int .i64 0, .int .i64 0] ∧ Below w.heap.size w wx)
    case first =>
      go_region_held3 (fun _ => True) (trivial) (first | (go_at_call 11; with_reducible refine (bring_w s 2048 n HN.out (by omega) (by omega) _).mono ?_; rintro e w0 ⟨rfl, hw0⟩; replace hw0 := hw0.symm; subst hw0) | (go_at_call 11; with_reducible refine (bring_w a 7 k HK.out (by omega) (by omega) _).mono ?_; rintro e w0 ⟨rfl, hw0⟩; replace hw0 := hw0.symm; subst hw0) | (go_at_call 11; with_reducible refine (bring_w t 2 _ HG.out (by omega) (by omega) _).mono ?_; rintro e w0 ⟨rfl, hw0⟩; replace hw0 := hw0.symm; subst hw0) | (go_at_call 8; with_reducible refine (of_at _ _ _ _ _ _ _ _ _ _ _ HX.out _).mono ?_; rintro e w1 ⟨rfl, hb1⟩; (try (have p1 : Blk w1 w.heap.size 23 #[.int .i64 0, .int .i64 0, .int .i64 0, .int .i64 0, .int .i64 0, .int .i64 0, .int .i64 0] := ((Blk.new w 23 _).drew).below hb1; have n1 := p1.lt; have c1 := p1.cell; have d1 := p1.frozen))))
      all_goals
        go_wp2_with fail
        go_meet
        first
        | exact ⟨w1.heap.size, rfl, rfl, hb1.size, Blk.new w1 23 _, by (have z1 : w.heap.size ≤ w1.heap.size := hb1.size); (repeat' (first | (with_reducible exact Below.refl _ _) | (with_reducible assumption) | (with_reducible refine Below.alloc ?_ ?_ _) | (with_reducible refine below_drewN ?_ _) | (with_reducible refine Below.drew ?_) | (with_reducible refine Below.setCell ?_ ?_ _) | (with_reducible refine below_two ?_ (by with_reducible assumption)) | go_size))⟩
        | exact ⟨w.heap.size, rfl, rfl, Nat.le_refl _, ((((((p1.set_ 0 _).set_ 1 _).set_ 2 _).set_ 3 _).set_ 4 _).set_ 5 _).set_ 6 _, by (have z1 : w.heap.size ≤ w1.heap.size := Nat.le_of_lt p1.lt); (repeat' (first | (with_reducible exact Below.refl _ _) | (with_reducible assumption) | (with_reducible refine Below.alloc ?_ ?_ _) | (with_reducible refine below_drewN ?_ _) | (with_reducible refine Below.drew ?_) | (with_reducible refine Below.setCell ?_ ?_ _) | (with_reducible refine below_two ?_ (by with_reducible assumption)) | go_size))⟩
    case rest =>
      obtain ⟨G, rfl, rfl, hG, p1, hw⟩ := hcut
      have n1 := p1.lt
      have c1 := p1.cell
      go_wp2_with (first | (go_at_call 10; with_reducible refine (works_any _).mono ?_; rintro e w2 ⟨rfl, hb2⟩))
      go_ret
      exact ⟨rfl, by (repeat' (first | (with_reducible exact Below.refl _ _) | (with_reducible assumption) | (with_reducible refine Below.alloc ?_ ?_ _) | (with_reducible refine below_drewN ?_ _) | (with_reducible refine Below.drew ?_) | (with_reducible refine Below.setCell ?_ ?_ _) | (with_reducible refine below_two ?_ (by with_reducible assumption)) | go_size))⟩

theorem layoutFinds_any (s a t : Int) (w : World) : Calls Try.prog 6 #[.int .i64 s, .int .i64 a, .int .i64 t] w fun e w' => e = .returned (.bool true) ∧ Below w.heap.size w w' := by
  obtain ⟨n, hn⟩ : ∃ n : Nat, s % 2048 = n := ⟨(s % 2048).toNat, by omega⟩
  obtain ⟨k, hk⟩ : ∃ k : Nat, a % 7 = k := ⟨(a % 7).toNat, by omega⟩
  obtain ⟨gi, hg⟩ : ∃ gi, t % 2 = gi := ⟨_, rfl⟩
  obtain ⟨u, hu⟩ : ∃ u, t % 2100 = u := ⟨_, rfl⟩
  obtain ⟨g, hgi⟩ : ∃ g : Bool, gi = 0 ∧ g = false ∨ gi = 1 ∧ g = true := by
    rcases (show gi = 0 ∨ gi = 1 by omega) with h | h
    · exact ⟨false, Or.inl ⟨h, rfl⟩⟩
    · exact ⟨true, Or.inr ⟨h, rfl⟩⟩
  have hn' : n < 2048 := by omega
  have hk' : k < 7 := by omega
  have hY : IntKind.i64.wrap (2 ^ k) = wrap64 (2 ^ k) := by unfold wrap64; exact IntKind.wrap_i64 _
  have hB : alB (wrap64 (2 ^ k)) = true := by
    have := al_pow hk'
    rwa [Int.one_mul] at this
  have hX : IntKind.i64.wrap (1 + (n : Int)) = 1 + n := IntWalk.i64_in _ (by omega)
  have HY := Lib.hid hY
  clear hY
  obtain ⟨Y, hY⟩ : ∃ Y, wrap64 (2 ^ k) = Y := ⟨_, rfl⟩
  have HY' : Hid (IntKind.i64.wrap (2 ^ k) = Y) := Lib.hid (HY.out.trans hY)
  rw [hY] at hB
  clear HY hY
  have hok : okL (1 + n) Y = true := by
    rw [okL_iff]
    refine ⟨?_, ?_, (alB_iff _).1 hB⟩ <;> clear hB <;> omega
  rcases hx : ofF (1 + n) Y g with ⟨⟨sz, al', st, off, ord, obj, was⟩, e⟩
  by_cases he : e = 0
  · subst he
    have hI : Is (1 + n) Y g ⟨sz, al', st, off, ord, obj, was⟩ := by
      have := ofF_is (s := 1 + n) (a := Y) (g := g) (by rw [hx])
      rwa [hx] at this
    have hm : mayF ⟨sz, al', st, off, ord, obj, was⟩ = true := by
      have := of_may (s := 1 + n) (a := Y) (g := g) (by rw [hx])
      rwa [hx] at this
    rcases hy : ixF ⟨sz, al', st, off, ord, obj, was⟩ (u - 20) with ⟨i, b⟩
    have hob := hI.obj
    have hib := ix_bd hm hy
    have HX := Lib.hid hx
    clear hx hI hok hB
    exact finds_ok s a t gi g n k hn hk hg hgi hn' hk' sz al' st off ord obj was (1 + n) Y hX HY'.out HX (Lib.hid hm) hob u hu (by omega) i b (Lib.hid hy) hib w
  · obtain ⟨h1, h2⟩ := of_err (g := g) hok (by rw [hx]; exact he)
    subst h2
    exact finds_err s a t gi n k true hn hk hg hgi hn' hk' (1 + n) Y hX HY'.out (Lib.hid h1) w

end Go.Proofs.Ytibpaomkaknbhaa
