/-
  The walk of the law LinkOne.
-/
import Derived.Test.YtklhlhfplkmpmaaLawC
import Derived.Test.YtklhlhfplkmpmaaPlainC
import Derived.Test.YtklhlhfplkmpmaaTail
import Derived.Deep.DeepCutAuto
namespace Go.Proofs.Ytklhlhfplkmpmaa
open Go.RowKit

def cntC (xs : List Nat) (k : Nat) : Array Value := ((List.range 16).map fun (v : Nat) => Value.int .i64 ((xs.take k).count v : Nat)).toArray
theorem cntC_zero (xs : List Nat) : cntC xs 0 = #[.int .i64 0, .int .i64 0, .int .i64 0, .int .i64 0, .int .i64 0, .int .i64 0, .int .i64 0, .int .i64 0, .int .i64 0, .int .i64 0, .int .i64 0, .int .i64 0, .int .i64 0, .int .i64 0, .int .i64 0, .int .i64 0] := by rfl
theorem cntC_at {xs : List Nat} {k v : Nat} (h : v < 16) : (cntC xs k)[v]? = some (.int .i64 ((xs.take k).count v : Nat)) := by
  unfold cntC
  rw [List.getElem?_toArray, List.getElem?_map, List.getElem?_range h]
  rfl
theorem cntC_set {xs : List Nat} {k x : Nat} (hx : xs[k]? = some x) (h : x < 16) : (cntC xs k).setIfInBounds x (.int .i64 (((xs.take k).count x : Nat) + 1)) = cntC xs (k + 1) := by
  have hk : k < xs.length := (List.getElem?_eq_some_iff.1 hx).1
  have hx' : xs[k] = x := (List.getElem?_eq_some_iff.1 hx).2
  have ht : xs.take (k + 1) = xs.take k ++ [x] := by rw [List.take_succ_eq_append_getElem hk, hx']
  apply Array.ext_getElem?
  intro j
  have hs : (cntC xs k).size = 16 := by simp [cntC]
  rw [Array.getElem?_setIfInBounds]
  by_cases hxj : x = j
  · subst hxj
    rw [if_pos rfl, if_pos (by omega), cntC_at h, ht, List.count_append]
    simp
  · rw [if_neg hxj]
    rcases Nat.lt_or_ge j 16 with hj | hj
    · rw [cntC_at hj, cntC_at hj, ht, List.count_append]
      have : [x].count j = 0 := by rw [List.count_singleton]; simp [hxj]
      rw [this]
      rfl
    · rw [Array.getElem?_eq_none (by omega), Array.getElem?_eq_none (by simp [cntC]; omega)]
def sharedB (xs ys : List Nat) (k : Nat) : Bool := (ys.take k).any fun y => decide (y ∈ xs)
theorem sharedB_succ {xs ys : List Nat} {k y : Nat} (hy : ys[k]? = some y) : sharedB xs ys (k + 1) = (sharedB xs ys k || decide (y ∈ xs)) := by
  have hk : k < ys.length := (List.getElem?_eq_some_iff.1 hy).1
  have hy' : ys[k] = y := (List.getElem?_eq_some_iff.1 hy).2
  unfold sharedB
  rw [List.take_succ_eq_append_getElem hk, hy', List.any_append]
  simp
theorem count_pos {xs : List Nat} {y : Nat} : decide (0 < xs.count y) = decide (y ∈ xs) := by simp [List.count_pos_iff]

set_option maxRecDepth 100000 in
set_option maxHeartbeats 1000000 in
/-- What is not two lists. -/
theorem one_err (ws : List Nat) (m : Nat) (hm : Hid (ws.length = m)) (h1 : 1 ≤ m) (h16 : m ≤ 16) (n : Nat) (hn : n = m ∨ (16 < n ∧ m = 16)) (key : Nat) (hk : key < 18446744073709551616) (hws : Hid (∀ x ∈ ws, x < 18446744073709551616)) (a b f g : Int) (A : Option Addr) (c : Nat) (hc : m ≤ c) (hn63 : n ≤ 9223372036854775807)
    (hf : Hid (a % m = f)) (hg : Hid (b % m = g)) (xs ys : List Nat) (p q : Nat) (e e' : Int) (hp : Hid (xs.length = p)) (hq : Hid (ys.length = q)) (H1 : Hid (listF ws key f = (xs, e))) (H2 : Hid (listF ws key g = (ys, e'))) (he : e = 150 ∨ (e = 0 ∧ e' = 150)) (w : World) (hA : Row w A (wordV ws)) :
    Calls Try.prog 7 #[.slice A n c, .int .u64 key, .agg #[.int .i64 a, .int .i64 b]] w fun e w' => e = .returned (.bool true) ∧ Below w.heap.size w w' := by
  have hA1 := (hA.alloc (.cells #[.int .i64 a, .int .i64 b] 41))
  rcases he with rfl | ⟨rfl, rfl⟩
  all_goals
    go_enter Try.func7, Try.ntmps7
    go_upto_region 1 with fail
    go_cut [0] (fun s0 wx => s0 = .slice A m c ∧ wx = w.alloc (.cells #[.int .i64 a, .int .i64 b] 41))
    case first =>
      rcases hn with rfl | ⟨hn1, rfl⟩
      all_goals
        go_wp2_with fail
        go_meet
        exact ⟨rfl, rfl⟩
    case rest =>
      obtain ⟨rfl, rfl⟩ := hcut
      clear hn
      go_wp2_with (first | (go_at_call 21; with_reducible refine (bring_n a _ f hf.out (by omega) (by omega) _).mono ?_; rintro e w0 ⟨rfl, hw0⟩; replace hw0 := hw0.symm; subst hw0) | (go_at_call 21; with_reducible refine (bring_n b _ g hg.out (by omega) (by omega) _).mono ?_; rintro e w0 ⟨rfl, hw0⟩; replace hw0 := hw0.symm; subst hw0) | (go_at_call 15; with_reducible refine (list_c ws _ hm.out key f key rfl hk hws.out (by omega) xs p _ hp.out H1.out _ _ _ hA1).mono ?_; rintro e w1 ⟨v1, rfl, ho1, hb1⟩; obtain ⟨A1, c1, rfl, hr1⟩ := Row.slice ho1; have hA2 := hA1.below hb1; have p1 := (Blk.new w 41 #[.int .i64 a, .int .i64 b]).below hb1; have n1 := p1.lt; have k1 := p1.cell; have z1 := hb1.size; rw [World.size_alloc] at z1) | (go_at_call 15; with_reducible refine (list_c ws _ hm.out key g key rfl hk hws.out (by omega) ys q _ hq.out H2.out _ _ _ hA2).mono ?_; rintro e w2 ⟨v2, rfl, ho2, hb2⟩; obtain ⟨A2, c2, rfl, hr2⟩ := Row.slice ho2; have z2 := hb2.size) | (go_at_call 14; with_reducible refine (works_any _).mono ?_; rintro e w3 ⟨rfl, hb3⟩; have z3 := hb3.size))
      all_goals
        go_ret
        exact ⟨rfl, by (repeat' (first | (with_reducible exact Below.refl _ _) | (with_reducible assumption) | (with_reducible refine Below.alloc ?_ ?_ _) | (with_reducible refine below_drewN ?_ _) | (with_reducible refine Below.drew ?_) | (with_reducible refine Below.setCell ?_ ?_ _) | (with_reducible refine below_two ?_ (by with_reducible assumption)) | go_size))⟩

set_option maxRecDepth 100000 in
theorem one_none (A : Option Addr) (c : Nat) (key : Nat) (a b : Int) (w : World) :
    Calls Try.prog 7 #[.slice A 0 c, .int .u64 key, .agg #[.int .i64 a, .int .i64 b]] w fun e w' => e = .returned (.bool true) ∧ Below w.heap.size w w' := by
  go_enter Try.func7, Try.ntmps7
  go_wp2_with (first | (go_at_call 14; with_reducible refine (works_any _).mono ?_; rintro e w3 ⟨rfl, hb3⟩; have z3 := hb3.size; rw [World.size_alloc] at z3))
  go_ret
  exact ⟨rfl, by (repeat' (first | (with_reducible exact Below.refl _ _) | (with_reducible assumption) | (with_reducible refine Below.alloc ?_ ?_ _) | (with_reducible refine below_drewN ?_ _) | (with_reducible refine Below.drew ?_) | (with_reducible refine Below.setCell ?_ ?_ _) | (with_reducible refine below_two ?_ (by with_reducible assumption)) | go_size))⟩

theorem count_le_one {xs : List Nat} (h : xs.Nodup) (v : Nat) : xs.count v ≤ 1 := List.nodup_iff_count.1 h v

set_option maxRecDepth 100000 in
set_option maxHeartbeats 4000000 in
theorem one_ok (ws : List Nat) (m : Nat) (hm : Hid (ws.length = m)) (h1 : 1 ≤ m) (h16 : m ≤ 16) (n : Nat) (hn : n = m ∨ (16 < n ∧ m = 16)) (key : Nat) (hk : key < 18446744073709551616) (hws : Hid (∀ x ∈ ws, x < 18446744073709551616)) (a b g : Int) (x0 : Nat) (A : Option Addr) (c : Nat) (hc : m ≤ c) (hn63 : n ≤ 9223372036854775807)
    (hf : Hid (a % m = (x0 : Int))) (hg : Hid (b % m = g)) (xs ys zs yt : List Nat) (last y z r : Nat) (hp : Hid (xs.length = z + 1)) (hq : Hid (ys.length = r + 1)) (H1 : Hid (listF ws key x0 = (xs, 0))) (H2 : Hid (listF ws key g = (ys, 0)))
    (hxs : Hid (xs = zs ++ [last])) (hz : Hid (zs.length = z)) (hys : Hid (ys = y :: yt)) (hx0 : Hid (xs[0]? = some x0)) (hxl : Hid (∀ x ∈ xs, x < m)) (hyl : Hid (∀ x ∈ ys, x < m)) (hnd : Hid xs.Nodup) (hz16 : z < 16) (hr16 : r < 16) (hlast : last < m) (hy : y < m)
    (u : Nat) (hu : Hid (hideF y key last = ((u : Int), 0))) (hul : u < 18446744073709551616) (hjoin : Hid (sharedB xs ys (r + 1) = false → listF (ws.set last u) key x0 = (xs ++ ys, 0))) (w : World) (hA : Row w A (wordV ws)) :
    Calls Try.prog 7 #[.slice A n c, .int .u64 key, .agg #[.int .i64 a, .int .i64 b]] w fun e w' => e = .returned (.bool true) ∧ Below w.heap.size w w' := by
  have hz0 : ((z : Int) + 1 == 0) = false := by rw [beq_eq_false_iff_ne]; omega
  have hr0 : ((r : Int) + 1 == 0) = false := by rw [beq_eq_false_iff_ne]; omega
  have hA1 := (hA.alloc (.cells #[.int .i64 a, .int .i64 b] 41))
  go_enter Try.func7, Try.ntmps7
  go_upto_region 1 with fail
  go_cut [0] (fun s0 wx => s0 = .slice A m c ∧ wx = w.alloc (.cells #[.int .i64 a, .int .i64 b] 41))
  case first =>
    rcases hn with rfl | ⟨hn1, rfl⟩
    all_goals
      go_wp2_with fail
      go_meet
      exact ⟨rfl, rfl⟩
  case rest =>
    obtain ⟨rfl, rfl⟩ := hcut
    clear hn
    go_wp2_with (first | (go_at_call 21; with_reducible refine (bring_n a _ x0 hf.out (by omega) (by omega) _).mono ?_; rintro e w0 ⟨rfl, hw0⟩; replace hw0 := hw0.symm; subst hw0) | (go_at_call 21; with_reducible refine (bring_n b _ g hg.out (by omega) (by omega) _).mono ?_; rintro e w0 ⟨rfl, hw0⟩; replace hw0 := hw0.symm; subst hw0) | (go_at_call 15; with_reducible refine (list_c ws _ hm.out key x0 key rfl hk hws.out (by omega) xs (z + 1) 0 hp.out H1.out _ _ _ hA1).mono ?_; rintro e w1 ⟨v1, rfl, ho1, hb1⟩; obtain ⟨A1, c1, rfl, hr1⟩ := Row.slice ho1; have hA2 := hA1.below hb1; have p1 := (Blk.new w 41 #[.int .i64 a, .int .i64 b]).below hb1; have n1 := p1.lt; have k1 := p1.cell; have z1 := hb1.size; rw [World.size_alloc] at z1) | (go_at_call 15; with_reducible refine (list_c ws _ hm.out key g key rfl hk hws.out (by omega) ys (r + 1) 0 hq.out H2.out _ _ _ hA2).mono ?_; rintro e w2 ⟨v2, rfl, ho2, hb2⟩; obtain ⟨A2, c2, rfl, hr2⟩ := Row.slice ho2; have z2 := hb2.size; have hr1 := hr1.below hb2; have hA2 := hA2.below hb2))
    have q2 : Below w.heap.size w w2 := by (repeat' (first | (with_reducible exact Below.refl _ _) | (with_reducible assumption) | (with_reducible refine Below.alloc ?_ ?_ _) | (with_reducible refine below_drewN ?_ _) | (with_reducible refine Below.drew ?_) | (with_reducible refine Below.setCell ?_ ?_ _) | (with_reducible refine below_two ?_ (by with_reducible assumption)) | go_size))
    clear hb1 hb2 hA1 p1 k1 n1
    go_loopw [12] (fun j wr => ∃ k : Nat, k ≤ z + 1 ∧ j = .int .i64 k ∧ Blk wr w2.heap.size 42 (cntC xs k) ∧ Below w2.heap.size w2 wr) (fun j _ => z + 1 - (intOf j).toNat)
    case atStart => exact ⟨0, by omega, rfl, by rw [cntC_zero]; exact Blk.new w2 42 _, by (repeat' (first | (with_reducible exact Below.refl _ _) | (with_reducible assumption) | (with_reducible refine Below.alloc ?_ ?_ _) | (with_reducible refine below_drewN ?_ _) | (with_reducible refine Below.drew ?_) | (with_reducible refine Below.setCell ?_ ?_ _) | (with_reducible refine below_two ?_ (by with_reducible assumption)) | go_size))⟩
    case round =>
      obtain ⟨k, hk', rfl, pB, hw⟩ := hrel
      have hz' := hw.size
      have nB := pB.lt
      by_cases hlt : k < z + 1
      · obtain ⟨ba, oa, rfl, hba, hca⟩ := hr1 (by simp [hp.out])
        have hkx : k < xs.length := by rw [hp.out]; exact hlt
        obtain ⟨x, hx⟩ : ∃ x, xs[k] = x := ⟨_, rfl⟩
        have ex : xs[k]? = some x := by rw [List.getElem?_eq_getElem hkx, hx]
        have hxm : x < m := hxl.out x (hx ▸ List.getElem_mem hkx)
        have cX := (hw.cell (p := ⟨ba, oa + k, none⟩) hba).trans (hca k _ (nat_at hkx))
        rw [hx] at cX
        have cH := (pB.cell x).trans (cntC_at (xs := xs) (k := k) (show x < 16 by omega))
        have dH := pB.frozen x
        have hcl : (xs.take k).count x ≤ 16 := Nat.le_trans List.count_le_length (by rw [List.length_take, hp.out]; omega)
        obtain ⟨cn, hcn⟩ : ∃ cn, (xs.take k).count x = cn := ⟨_, rfl⟩
        have HS : Hid ((cntC xs k).setIfInBounds x (.int .i64 ((cn : Int) + 1)) = cntC xs (k + 1)) := Lib.hid (by rw [← hcn]; exact cntC_set ex (by omega))
        rw [hcn] at cH hcl
        have hba' : ba < wr.heap.size := by omega
        have k0 : (0 : Int) ≤ (k : Int) := by omega
        have k1 : (k : Int) < (z : Int) + 1 := by omega
        have x1 : (0 : Int) ≤ (x : Int) := by omega
        have x2 : (x : Int) < 16 := by omega
        have x3 : (x : Int) < (m : Int) := by omega
        clear hcn hx ex hca
        go_wp2
        (refine wp_region_tail 12 (wr.heap.size) ?_ ?_ ?_ ?_ ?_ ?_ ?_; kernel_rfl; kernel_rfl; kernel_rfl; kernel_rfl; kernel_rfl; go_size; intro hxc hxf hxh hxn; simp only [List.take, List.drop]; (repeat (first | go_big_quiet_step (fail) | quiet_step (fail))); refine wpQuiet_nil ?_; intro w1 hs1; clear hxc hxf hxh hxn; obtain ⟨hb1, hz1, hc1, hf1⟩ := ext_known hs1 (wr.heap.size) (by go_size); clear hs1)
        have hset := (pB.below hb1).set_ x (.int .i64 ((cn : Int) + 1))
        rw [HS.out] at hset
        have zz := hb1.size
        go_wp2
        go_roundw
        case rel => exact ⟨k + 1, by omega, by go_num, hset, by (repeat' (first | (with_reducible exact Below.refl _ _) | (with_reducible assumption) | (with_reducible refine Below.alloc ?_ ?_ _) | (with_reducible refine below_drewN ?_ _) | (with_reducible refine Below.drew ?_) | (with_reducible refine Below.setCell ?_ ?_ _) | (with_reducible refine below_two ?_ (by with_reducible assumption)) | go_size))⟩
        case measure => simp [intOf]; omega
      · have hkz : z + 1 ≤ k := by omega
        have HC : Hid (∀ v : Nat, v < 16 → wr.cell? ⟨w2.heap.size, v, none⟩ = some (.int .i64 (xs.count v : Nat))) := Lib.hid (fun v hv => by
          have := (pB.cell v).trans (cntC_at (xs := xs) (k := k) hv)
          rwa [List.take_of_length_le (by rw [hp.out]; exact hkz)] at this)
        have qr : Below w.heap.size w wr := by (repeat' (first | (with_reducible exact Below.refl _ _) | (with_reducible assumption) | (with_reducible refine Below.alloc ?_ ?_ _) | (with_reducible refine below_drewN ?_ _) | (with_reducible refine Below.drew ?_) | (with_reducible refine Below.setCell ?_ ?_ _) | (with_reducible refine below_two ?_ (by with_reducible assumption)) | go_size))
        clear pB
        go_wp2
        go_loop [14, 13] (fun j s => ∃ k : Nat, k ≤ r + 1 ∧ j = .int .i64 k ∧ s = .bool (sharedB xs ys k)) (fun j _ => r + 1 - (intOf j).toNat)
        case atStart => exact ⟨0, by omega, rfl, rfl⟩
        case round =>
          clear hkz hk' hlt
          obtain ⟨k, hk', rfl, rfl⟩ := hrel
          by_cases hlt : k < r + 1
          · obtain ⟨bb, ob, rfl, hbb, hcb⟩ := hr2 (by simp [hq.out])
            have hky : k < ys.length := by rw [hq.out]; exact hlt
            obtain ⟨x, hx⟩ : ∃ x, ys[k] = x := ⟨_, rfl⟩
            have ex : ys[k]? = some x := by rw [List.getElem?_eq_getElem hky, hx]
            have hxm : x < m := hyl.out x (hx ▸ List.getElem_mem hky)
            have cX := (hw.cell (p := ⟨bb, ob + k, none⟩) hbb).trans (hcb k _ (nat_at hky))
            rw [hx] at cX
            have cH := HC.out x (by omega)
            have HS := Lib.hid (sharedB_succ (xs := xs) ex)
            obtain ⟨cn, hcn⟩ : ∃ cn, xs.count x = cn := ⟨_, rfl⟩
            rw [hcn] at cH
            have HP : Hid (decide (0 < cn) = decide (x ∈ xs)) := Lib.hid (by rw [← hcn]; exact count_pos)
            have k0 : (0 : Int) ≤ (k : Int) := by omega
            have k1 : (k : Int) < (r : Int) + 1 := by omega
            have x1 : (0 : Int) ≤ (x : Int) := by omega
            have x2 : (x : Int) < 16 := by omega
            have x3 : (x : Int) < (m : Int) := by omega
            clear hcn hx ex hcb
            obtain ⟨sh, hsh⟩ : ∃ sh, sharedB xs ys k = sh := ⟨_, rfl⟩
            rw [hsh] at HS ⊢
            clear hsh
            cases sh
            · by_cases hc0 : 0 < cn
              · have HN : Hid (sharedB xs ys (k + 1) = true) := Lib.hid (by rw [HS.out, ← HP.out, decide_eq_true hc0]; rfl)
                go_wp2
                go_round
                case rel => exact ⟨k + 1, by omega, by go_num, by rw [HN.out]⟩
                case measure => simp [intOf]; omega
              · have HN : Hid (sharedB xs ys (k + 1) = false) := Lib.hid (by rw [HS.out, ← HP.out, decide_eq_false hc0]; rfl)
                have hc1 : cn = 0 := by omega
                subst hc1
                go_wp2
                go_round
                case rel => exact ⟨k + 1, by omega, by go_num, by rw [HN.out]⟩
                case measure => simp [intOf]; omega
            · have HN : Hid (sharedB xs ys (k + 1) = true) := Lib.hid (by rw [HS.out]; rfl)
              go_wp2
              go_round
              case rel => exact ⟨k + 1, by omega, by go_num, by rw [HN.out]⟩
              case measure => simp [intOf]; omega
          · have hkr : k = r + 1 := by omega
            obtain ⟨sh, hsh⟩ : ∃ sh, sharedB xs ys k = sh := ⟨_, rfl⟩
            have hsh' : sharedB xs ys (r + 1) = sh := by rw [← hkr]; exact hsh
            rw [hsh'] at hjoin
            rw [hsh]
            clear hsh hsh' hkr
            go_wp2
            go_loop [15] (fun j => ∃ k : Nat, k ≤ 16 ∧ j = .int .i64 k) (fun j => 16 - (intOf j).toNat)
            case atStart => exact ⟨0, by omega, rfl⟩
            case round =>
              clear hk' hlt
              obtain ⟨k, hk', rfl⟩ := hrel
              by_cases hlt : k < 16
              · have cH := HC.out k hlt
                have hle := count_le_one hnd.out k
                obtain ⟨cn, hcn⟩ : ∃ cn, xs.count k = cn := ⟨_, rfl⟩
                rw [hcn] at cH hle
                have k0 : (0 : Int) ≤ (k : Int) := by omega
                have k1 : (k : Int) < 16 := by omega
                clear hcn
                go_wp2
                go_round
                case rel => exact ⟨k + 1, by omega, by go_num⟩
                case measure => simp [intOf]; omega
              · cases sh
                · clear HC
                  have zr := hw.size
                  obtain ⟨ba, oa, rfl, hba, hca⟩ := hr1 (by simp [hp.out])
                  obtain ⟨bb, ob, rfl, hbb, hcb⟩ := hr2 (by simp [hq.out])
                  have el : (natV xs)[z]? = some (.int .i64 (last : Nat)) := by
                    rw [hxs.out, ← hz.out]
                    simp
                  have ey : (natV ys)[0]? = some (.int .i64 (y : Nat)) := by rw [hys.out]; rfl
                  have ex : (natV xs)[0]? = some (.int .i64 (x0 : Nat)) := by
                    rw [List.getElem?_map, hx0.out]
                    rfl
                  have cL := (hw.cell (p := ⟨ba, oa + z, none⟩) hba).trans (hca z _ el)
                  have cY := (hw.cell (p := ⟨bb, ob + 0, none⟩) hbb).trans (hcb 0 _ ey)
                  have CX0 := Lib.hid ((hw.cell (p := ⟨ba, oa + 0, none⟩) hba).trans (hca 0 _ ex))
                  rw [Nat.add_zero] at cY CX0
                  have rA : Row wr A (wordV ws) := (hA2.toB.below hw).row zr
                  have rX : RowB wr w2.heap.size (some ⟨ba, oa, none⟩) (natV xs) := RowB.below (fun _ => ⟨ba, oa, rfl, hba, hca⟩) hw
                  have rY : RowB wr w2.heap.size (some ⟨bb, ob, none⟩) (natV ys) := RowB.below (fun _ => ⟨bb, ob, rfl, hbb, hcb⟩) hw
                  have HR := Lib.hid (rA.reads (n := m) (by simpa using hm.out))
                  obtain ⟨i0, hi, hj0, hj1, hj2⟩ := info_parts Try.info22
                  have I0 := Lib.hid hi
                  have I1 := Lib.hid hj0
                  have I2 := Lib.hid hj1
                  have I3 := Lib.hid hj2
                  obtain ⟨i1, hi', hj0', hj1', hj2'⟩ := info_parts Try.info3
                  have J0 := Lib.hid hi'
                  have J1 := Lib.hid hj0'
                  have J2 := Lib.hid hj1'
                  have J3 := Lib.hid hj2'
                  have z0' : (0 : Int) ≤ (z : Int) := by omega
                  have l0 : (0 : Int) ≤ (last : Int) := by omega
                  have l1 : (last : Int) < (m : Int) := by omega
                  clear hi hj0 hj1 hj2 hi' hj0' hj1' hj2' el ey ex hca hcb hr1 hr2 hA2
                  go_wp2_with (first | (go_at_call 10; with_reducible refine (hide_at y key hk last _ _ hu.out _).mono ?_; rintro e w0 ⟨rfl, hw0⟩; replace hw0 := hw0.symm; subst hw0) | (at_builtin; refine wpList_append_any _ rfl _ _ 26 rfl wr.heap.size 22 i0 (.int .u64 0) 1 8 Try.underlying26 I0.out I1.out I2.out I3.out rfl (by decide) _ _ _ rfl (World.ownsRow_nil _ _ _ _) wr.heap.size _ m _ (wordV ws) rfl HR.out (fun u hu => by obtain ⟨x, -, rfl⟩ := List.mem_map.1 hu; rfl) (by unfold maxLen; omega) (by omega) (Nat.le_refl _) ?_; intro v3 w3 ho3 hg3 hq3; clear hq3; have hb3 := below_grown (Below.refl wr.heap.size wr) hg3 (Nat.le_refl _) (fun g hg => by cases hg); simp only [Nat.zero_add, List.nil_append] at ho3; obtain ⟨g3, cp3, rfl, hg3', hl3⟩ := ho3.form h1; have z3 := hb3.size; have c3 := (ho3.cellAt last (by omega)).trans (word_at (i := last) (by rw [hm.out]; exact hlast)); have d3 := ho3.frozenAt last; have x3 := (hb3.cell (p := ⟨ba, oa, none⟩) (show ba < wr.heap.size by omega)).trans CX0.out))
                  have hr4 : Row (w3.setCell ⟨g3, last, none⟩ (.int .u64 (u : Int))) (some ⟨g3, 0, none⟩) (wordV (ws.set last u)) := by
                    have := Row.of_own (ho3.stored last (.int .u64 (u : Int))).1
                    rwa [show (wordV ws).set last (.int .u64 (u : Int)) = wordV (ws.set last u) by simp [List.map_set]] at this
                  have q4 : Below wr.heap.size wr (w3.setCell ⟨g3, last, none⟩ (.int .u64 (u : Int))) := hb3.setCell hg3' _
                  obtain ⟨w4, hw4⟩ : ∃ w4, w3.setCell ⟨g3, last, none⟩ (.int .u64 (u : Int)) = w4 := ⟨_, rfl⟩
                  rw [hw4] at hr4 q4 ⊢
                  clear hw4 hb3 ho3 c3 d3 x3 hg3 cL cY
                  have z4 := q4.size
                  have HW4 : Hid (∀ x ∈ ws.set last u, x < 18446744073709551616) := Lib.hid (fun x hx => by
                    rcases List.mem_or_eq_of_mem_set hx with h | h
                    · exact hws.out x h
                    · rw [h]; exact hul)
                  have HJ := Lib.hid (hjoin.out (by first | exact rfl | exact trivial))
                  have HL : Hid ((xs ++ ys).length = z + 1 + (r + 1)) := Lib.hid (by rw [List.length_append, hp.out, hq.out])
                  have HE : Hid (natV xs ++ natV ys = natV (xs ++ ys)) := Lib.hid (by simp)
                  have hone : Hid (∀ l : List Nat, ∀ v ∈ natV l, v.oneCell' = true) := Lib.hid (fun l v hv => by obtain ⟨x, -, rfl⟩ := List.mem_map.1 hv; rfl)
                  with_reducible refine (list_c (ws.set last u) m (by rw [List.length_set]; exact hm.out) key x0 key rfl hk HW4.out (by omega) (xs ++ ys) (z + 1 + (r + 1)) 0 HL.out HJ.out _ _ _ hr4).mono ?_
                  rintro e w5 ⟨v5, rfl, ho5, hb5⟩
                  obtain ⟨A5, c5, rfl, hr5⟩ := Row.slice ho5
                  have z5 := hb5.size
                  have q5 : Below w2.heap.size wr w5 := (q4.mono zr).trans (hb5.mono (by omega))
                  have rX5 := (rX.below q5).row (by omega)
                  have rY5 := (rY.below q5).row (by omega)
                  have b5 := hr5.toB
                  clear hjoin HJ HW4 hr4
                  go_wp2_with (first | (go_at_call 22; with_reducible refine (copyInts_any (natV xs) (hone.out xs) _ (z + 1) c1 _ (by rw [List.length_map]; exact hp.out) (by omega) rX5).mono ?_; rintro e w6 ⟨v6, rfl, ho6, hb6⟩; have z6 := hb6.size; have HY6 := Lib.hid ((rY5.below hb6).reads (n := r + 1) (by rw [List.length_map]; exact hq.out))) | (at_builtin; refine wpList_append_guarded _ (by rfl) _ _ 31 rfl w5.heap.size 3 i1 (.int .i64 0) 1 8 Try.underlying31 J0.out J1.out J2.out J3.out rfl (by decide) _ _ _ rfl ho6 w6.heap.size _ (r + 1) _ (natV ys) rfl HY6.out (hone.out ys) (by unfold maxLen; omega) (by omega) z6 ?_; intro v7 w7 ho7 hg7 hq7; clear hq7; have hb7 := below_grown hb6 hg7 z6 (fun g hg => (ho6.lt g hg).1); rw [HE.out] at ho7; obtain ⟨A7, c7, rfl, hr7⟩ := Row.slice ho7; have z7 := hb7.size; have r5 := (b5.below hb7).row z7) | (go_at_call 17; with_reducible refine (eqNats (xs ++ ys) (xs ++ ys) (z + 1 + (r + 1)) (z + 1 + (r + 1)) true HL.out HL.out (by omega) (by omega) (decide_eq_true rfl) _ _ _ _ _ r5 hr7).mono ?_; rintro e w8 ⟨rfl, hb8⟩; have z8 := hb8.size) | (go_at_call 14; with_reducible refine (works_any _).mono ?_; rintro e w9 ⟨rfl, hb9⟩; have z9 := hb9.size))
                  go_ret
                  exact ⟨rfl, by (repeat' (first | (with_reducible exact Below.refl _ _) | (with_reducible assumption) | (with_reducible refine Below.alloc ?_ ?_ _) | (with_reducible refine below_drewN ?_ _) | (with_reducible refine Below.drew ?_) | (with_reducible refine Below.setCell ?_ ?_ _) | (with_reducible refine below_two ?_ (by with_reducible assumption)) | go_size))⟩
                · go_wp2_with (first | (go_at_call 14; with_reducible refine (works_any _).mono ?_; rintro e w3 ⟨rfl, hb3⟩; have z3 := hb3.size))
                  go_ret
                  exact ⟨rfl, by (repeat' (first | (with_reducible exact Below.refl _ _) | (with_reducible assumption) | (with_reducible refine Below.alloc ?_ ?_ _) | (with_reducible refine below_drewN ?_ _) | (with_reducible refine Below.drew ?_) | (with_reducible refine Below.setCell ?_ ?_ _) | (with_reducible refine below_two ?_ (by with_reducible assumption)) | go_size))⟩

theorem linkOne_any (ws : List Nat) (key : Nat) (hk : key < 18446744073709551616) (a b : Int) (A : Option Addr) (c : Nat) (hws : ∀ x ∈ ws, x < 18446744073709551616) (hl : ws.length ≤ maxLen) (hcap : ws.length ≤ c) (w : World) (hA : Row w A (wordV ws)) :
    Calls Try.prog 7 #[.slice A ws.length c, .int .u64 key, .agg #[.int .i64 a, .int .i64 b]] w fun e w' => e = .returned (.bool true) ∧ Below w.heap.size w w' := by
  unfold maxLen at hl
  rcases Nat.eq_zero_or_pos ws.length with h0 | h0
  · rw [h0]
    exact one_none A c key a b w
  · obtain ⟨us, hus⟩ : ∃ us, ws.take 16 = us := ⟨_, rfl⟩
    have hlen : us.length = min 16 ws.length := by rw [← hus, List.length_take]
    have hrow : Row w A (wordV us) := fun hp => by
      obtain ⟨bb, off, e, hb, hc⟩ := hA (by simpa using h0)
      refine ⟨bb, off, e, hb, fun j v hv => hc j v ?_⟩
      rw [← hus, List.getElem?_map, List.getElem?_take] at hv
      rw [List.getElem?_map]
      split at hv
      · exact hv
      · cases hv
    have husl : ∀ x ∈ us, x < 18446744073709551616 := fun x hx => hws x (by rw [← hus] at hx; exact List.mem_of_mem_take hx)
    obtain ⟨m, hm⟩ : ∃ m, us.length = m := ⟨_, rfl⟩
    have hm1 : 1 ≤ m := by omega
    have hm16 : m ≤ 16 := by omega
    have hn : ws.length = m ∨ (16 < ws.length ∧ m = 16) := by omega
    have hf0 := Int.emod_nonneg a (show (m : Int) ≠ 0 by omega)
    have hf1 := Int.emod_lt_of_pos a (show 0 < (m : Int) by omega)
    have hg0 := Int.emod_nonneg b (show (m : Int) ≠ 0 by omega)
    have hg1 := Int.emod_lt_of_pos b (show 0 < (m : Int) by omega)
    obtain ⟨x0, hx0⟩ := Int.eq_ofNat_of_zero_le hf0
    obtain ⟨y0, hy0⟩ := Int.eq_ofNat_of_zero_le hg0
    rcases h1 : listF us key (x0 : Int) with ⟨xs, e⟩
    rcases h2 : listF us key (y0 : Int) with ⟨ys, e'⟩
    have k1 := list_err ((okL_iff us x0).2 ⟨by omega, by omega, by omega⟩) h1
    have k2 := list_err ((okL_iff us y0).2 ⟨by omega, by omega, by omega⟩) h2
    by_cases he : e = 0 ∧ e' = 0
    · obtain ⟨rfl, rfl⟩ := he
      obtain ⟨-, d1, l1, p1, t1, e1⟩ := list_known (by omega) h1
      obtain ⟨-, d2, l2, p2, t2, e2⟩ := list_known (by omega) h2
      rw [Int.toNat_natCast] at e1 e2
      have hne : xs ≠ [] := by rw [e1]; simp
      have hzs := (List.dropLast_concat_getLast hne).symm
      obtain ⟨last, hlast⟩ : ∃ last, xs.getLast hne = last := ⟨_, rfl⟩
      obtain ⟨zs, hzs'⟩ : ∃ zs, xs.dropLast = zs := ⟨_, rfl⟩
      rw [hlast, hzs'] at hzs
      have hp : xs.length = zs.length + 1 := by rw [hzs]; simp
      have hq : ys.length = t2.length + 1 := by rw [e2]; simp
      have hxle := nodup_le us.length xs d1 l1
      have hyle := nodup_le us.length ys d2 l2
      have hll : last < us.length := l1 last (by rw [hzs]; simp)
      have hyl : y0 < us.length := l2 y0 (by rw [e2]; simp)
      have hu : hideF (y0 : Int) key (last : Int) = (((hideW (y0 + 1) key last : Nat) : Int), 0) := by
        unfold hideF
        rw [if_pos ⟨(okN_iff _).2 ⟨by omega, by omega⟩, (okA_iff _).2 ⟨by omega, by omega⟩⟩, Int.toNat_natCast, show ((y0 : Int) + 1).toNat = y0 + 1 by omega]
      exact one_ok us m (Lib.hid hm) hm1 hm16 ws.length hn key hk (Lib.hid husl) a b y0 x0 A c (by omega) hl (Lib.hid hx0) (Lib.hid hy0) xs ys zs t2 last y0 zs.length t2.length (Lib.hid hp) (Lib.hid hq) (Lib.hid h1) (Lib.hid h2) (Lib.hid hzs) (Lib.hid rfl) (Lib.hid e2)
        (Lib.hid (by rw [e1]; rfl)) (Lib.hid (by rw [← hm]; exact l1)) (Lib.hid (by rw [← hm]; exact l2)) (Lib.hid d1) (by omega) (by omega) (by omega) (by omega) (hideW (y0 + 1) key last) (Lib.hid hu) (hideW_lt (by omega) _ _)
        (Lib.hid (fun hs => list_join (by omega) (by omega) h1 h2 hzs e2 (fun x hx hy => by
          unfold sharedB at hs
          rw [List.take_of_length_le (by omega), List.any_eq_false] at hs
          exact hs x hy (by simpa using hx)))) w hrow
    · refine one_err us m (Lib.hid hm) hm1 hm16 ws.length hn key hk (Lib.hid husl) a b x0 y0 A c (by omega) hl (Lib.hid hx0) (Lib.hid hy0) xs ys xs.length ys.length e e' (Lib.hid rfl) (Lib.hid rfl) (Lib.hid h1) (Lib.hid h2) ?_ w hrow
      rcases k1 with rfl | ⟨-, rfl⟩
      · rcases k2 with rfl | ⟨-, rfl⟩
        · exact absurd ⟨rfl, rfl⟩ he
        · exact Or.inr ⟨rfl, rfl⟩
      · exact Or.inl rfl

end Go.Proofs.Ytklhlhfplkmpmaa
