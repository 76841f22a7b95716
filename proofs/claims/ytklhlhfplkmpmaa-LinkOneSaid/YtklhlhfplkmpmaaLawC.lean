/-
  The walks of the laws LinkAll and LinkLists.
-/
import Derived.Test.YtklhlhfplkmpmaaLawB
import Derived.Test.YtklhlhfplkmpmaaOpenRow
namespace Go.Proofs.Ytklhlhfplkmpmaa
open Go.RowKit

theorem show_fresh {n key k : Nat} (hn : n < 16) (hk : k ≤ n) : showF (freshW (n + 1) key k) key (k : Int) = (if k = n then (-1 : Int) else (k : Int) + 1, true) := by
  by_cases h : k = n
  · subst h
    have := show_hide (n := -1) (i := (k : Int)) (key := key) (by decide) ((okA_iff _).2 ⟨by omega, by omega⟩)
    rw [hide_last hn, Int.toNat_natCast] at this
    rw [if_pos rfl]
    exact this
  · have := show_hide (n := (k : Int) + 1) (i := (k : Int)) (key := key) ((okN_iff _).2 ⟨by omega, by omega⟩) ((okA_iff _).2 ⟨by omega, by omega⟩)
    rw [hide_mid hn (by omega), Int.toNat_natCast] at this
    rw [if_neg h]
    exact this
theorem freshL_at {n key k : Nat} (h : k < n) : (freshL n key)[k]? = some (freshW n key k) := by
  unfold freshL
  rw [List.getElem?_map, List.getElem?_range h]
  rfl
theorem freshL_len (n key : Nat) : (freshL n key).length = n := by simp [freshL]
theorem run_fresh {n key : Nat} (hn : n < 16) : ∀ (d k f : Nat), k + d = n → runL (freshL (n + 1) key) key (d + 2 + f) (List.range k) (k : Int) = (List.range (n + 1), 0)
  | 0, k, f, h => by
    have hk : k = n := by omega
    subst hk
    have hs := show_fresh (key := key) hn (Nat.le_refl k)
    rw [if_pos rfl] at hs
    rw [show 0 + 2 + f = (f + 1) + 1 by omega, runL_step (by simp) (freshL_at (Nat.lt_succ_self k)) hs (by rw [freshL_len]; omega), runL_end, List.range_succ]
  | d + 1, k, f, h => by
    have hs := show_fresh (key := key) (k := k) hn (by omega)
    rw [if_neg (by omega)] at hs
    rw [show d + 1 + 2 + f = (d + 2 + f) + 1 by omega, runL_step (by simp) (freshL_at (by omega)) hs (by rw [freshL_len]; omega), ← List.range_succ]
    have := run_fresh (key := key) hn d (k + 1) f (by omega)
    rwa [Int.natCast_add, Int.natCast_one] at this
theorem list_fresh {n key : Nat} (hn : n < 16) : listF (freshL (n + 1) key) key 0 = (List.range (n + 1), 0) := by
  unfold listF
  rw [if_pos ((okL_iff _ _).2 ⟨by rw [freshL_len]; omega, by omega, by rw [freshL_len]; omega⟩)]
  have := run_fresh (key := key) hn n 0 (15 - n) (by omega)
  rw [show n + 2 + (15 - n) = 17 by omega] at this
  exact this
theorem freshL_lt {n key : Nat} (hn : n ≤ 16) : ∀ x ∈ freshL n key, x < 18446744073709551616 := by
  intro x hx
  unfold freshL at hx
  obtain ⟨i, hi, rfl⟩ := List.mem_map.1 hx
  have := List.mem_range.1 hi
  exact freshW_lt (by omega)

set_option maxHeartbeats 1000000 in
theorem all_at (a : Int) (n key : Nat) (hn : n < 16) (hk : key < 18446744073709551616) (ha : Hid (a % 16 = n)) (w : World) : Calls Try.prog 8 #[.int .i64 a, .int .u64 key] w fun e w' =>
    e = .returned (.bool true) ∧ Below w.heap.size w w' := by
  have hF : freshF ((n : Int) + 1) key = (freshL (n + 1) key, 0) := by
    unfold freshF
    rw [if_pos ⟨by omega, by omega⟩, show ((n : Int) + 1).toNat = n + 1 by omega]
  have HF := Lib.hid hF
  have HL := Lib.hid (list_fresh (n := n) (key := key) hn)
  have HW := Lib.hid (freshL_lt (n := n + 1) (key := key) (by omega))
  have hs : 1 + (n : Int) = (n : Int) + 1 := by omega
  clear hF
  go_enter Try.func8, Try.ntmps8
  go_wp2_with (first | (go_at_call 21; with_reducible refine (bring_n a 16 n ha.out (by omega) (by omega) _).mono ?_; rintro e w0 ⟨rfl, hw0⟩; replace hw0 := hw0.symm; subst hw0) | (go_at_call 19; with_reducible refine (fresh_c (n + 1) key key rfl hk _ (n + 1) 0 (freshL_len _ _) HF.out _).mono ?_; rintro e w1 ⟨v1, rfl, ho1, hb1⟩; obtain ⟨A1, c1, rfl, hr1⟩ := Row.slice ho1; have z1 := hb1.size) | (go_at_call 15; with_reducible refine (list_c _ (n + 1) (freshL_len _ _) key 0 key rfl hk HW.out (by omega) _ (n + 1) 0 List.length_range HL.out _ _ _ hr1).mono ?_; rintro e w2 ⟨v2, rfl, ho2, hb2⟩; obtain ⟨A2, c2, rfl, hr2⟩ := Row.slice ho2; have z2 := hb2.size))
  go_loopw [10] (fun j wr => ∃ k : Nat, k ≤ n + 1 ∧ j = .int .i64 k ∧ Below w2.heap.size w2 wr) (fun j _ => n + 1 - (intOf j).toNat)
  case atStart => exact ⟨0, by omega, rfl, Below.refl _ _⟩
  case round =>
    obtain ⟨k, hk', rfl, hw⟩ := hrel
    have hz := hw.size
    by_cases hlt : k < n + 1
    · obtain ⟨b, off, rfl, hb, hc⟩ := hr2 (by simp)
      have cK := (hw.cell (p := ⟨b, off + k, none⟩) hb).trans (hc k (.int .i64 k) (by simp [hlt]))
      have k0 : (0 : Int) ≤ (k : Int) := by omega
      have k1 : (k : Int) < (n : Int) + 1 := by omega
      clear hc hs
      go_wp2
      go_roundw
      case rel => exact ⟨k + 1, by omega, by go_num, by (repeat' (first | (with_reducible exact Below.refl _ _) | (with_reducible assumption) | (with_reducible refine Below.alloc ?_ ?_ _) | (with_reducible refine below_drewN ?_ _) | (with_reducible refine Below.drew ?_) | (with_reducible refine Below.setCell ?_ ?_ _) | (with_reducible refine below_two ?_ (by with_reducible assumption)) | go_size))⟩
      case measure => simp [intOf]; omega
    · clear hs
      go_wp2_with (first | (go_at_call 14; with_reducible refine (works_any _).mono ?_; rintro e w3 ⟨rfl, hb3⟩))
      go_ret
      exact ⟨rfl, by (repeat' (first | (with_reducible exact Below.refl _ _) | (with_reducible assumption) | (with_reducible refine Below.alloc ?_ ?_ _) | (with_reducible refine below_drewN ?_ _) | (with_reducible refine Below.drew ?_) | (with_reducible refine Below.setCell ?_ ?_ _) | (with_reducible refine below_two ?_ (by with_reducible assumption)) | go_size))⟩
theorem linkAll_any (a : Int) (key : Nat) (hk : key < 18446744073709551616) (w : World) : Calls Try.prog 8 #[.int .i64 a, .int .u64 key] w fun e w' =>
    e = .returned (.bool true) ∧ Below w.heap.size w w' := by
  obtain ⟨n, hn⟩ : ∃ n : Nat, a % 16 = n := ⟨(a % 16).toNat, by omega⟩
  exact all_at a n key (by omega) hk (Lib.hid hn) w

theorem runL_len (ws : List Nat) (key : Nat) : ∀ (f : Nat) (out : List Nat) (first : Int), out.length + f ≤ 17 → (runL ws key f out first).1.length ≤ 17
  | 0, _, _, _ => by simp [runL]
  | f + 1, out, first, h => by
    rw [runL]
    split
    · show out.length ≤ 17; omega
    · split
      · simp
      · split
        · exact runL_len ws key f _ _ (by rw [List.length_append, List.length_singleton]; omega)
        · simp
theorem listF_len (ws : List Nat) (key : Nat) (first : Int) : (listF ws key first).1.length ≤ 17 := by
  unfold listF
  split
  · exact runL_len ws key 17 [] first (by simp)
  · simp

set_option maxRecDepth 100000 in
set_option maxHeartbeats 2000000 in
theorem lists_at (ws : List Nat) (n : Nat) (hn : Hid (ws.length = n)) (hn8 : n * 8 ≤ 140737488355328) (hws : Hid (∀ x ∈ ws, x < 18446744073709551616)) (key : Nat) (hk : key < 18446744073709551616) (first : Int) (A : Option Addr) (c : Nat)
    (xs : List Nat) (m : Nat) (e : Int) (hm : Hid (xs.length = m)) (hm17 : m ≤ 17) (HL : Hid (listF ws key first = (xs, e))) (w : World) (hA : Row w A (wordV ws)) :
    Calls Try.prog 4 #[.slice A n c, .int .u64 key, .int .i64 first] w fun e w' => e = .returned (.bool true) ∧ Below w.heap.size w w' := by
  obtain ⟨i0, hi, hz0, hz1, hz2⟩ := info_parts Try.info22
  have I0 := Lib.hid hi
  have I1 := Lib.hid hz0
  have I2 := Lib.hid hz1
  have I3 := Lib.hid hz2
  have HR := Lib.hid (hA.reads (n := n) (by simpa using hn.out))
  have hAB := hA.toB
  clear hi hz0 hz1 hz2
  go_enter Try.func4, Try.ntmps4
  go_wp2_with (first | (at_builtin; refine wpList_append_any _ rfl _ _ 26 rfl w.heap.size 22 i0 (.int .u64 0) 1 8 Try.underlying26 I0.out I1.out I2.out I3.out rfl (by decide) _ _ _ rfl (World.ownsRow_nil _ _ _ _) w.heap.size _ n _ (wordV ws) rfl HR.out (fun u hu => by obtain ⟨x, -, rfl⟩ := List.mem_map.1 hu; rfl) (by unfold maxLen; omega) (by omega) (Nat.le_refl _) ?_; intro v1 w1 ho1 hg1 hq1; clear hq1; have hb1 := below_grown (Below.refl w.heap.size w) hg1 (Nat.le_refl _) (fun g hg => by cases hg); simp only [Nat.zero_add, List.nil_append] at ho1; obtain ⟨A1, c1, rfl, hr1⟩ := Row.slice ho1; have z1 := hb1.size; have hA1 := hA.below hb1; have hB1 := hr1.toB) | (go_at_call 15; with_reducible refine (list_c ws n hn.out key first key rfl hk hws.out (by omega) xs m e hm.out HL.out _ _ _ hr1).mono ?_; rintro e w2 ⟨v2, rfl, ho2, hb2⟩; obtain ⟨A2, c2, rfl, hr2⟩ := Row.slice ho2; have z2 := hb2.size; have hA2 := hA1.below hb2) | (go_at_call 16; with_reducible refine (refList_c ws n hn.out key first key rfl hk hws.out (by omega) xs m e hm.out HL.out _ _ _ hA2).mono ?_; rintro e w3 ⟨v3, rfl, ho3, hb3⟩; obtain ⟨A3, c3, rfl, hr3⟩ := Row.slice ho3; have z3 := hb3.size; have hr2 := hr2.below hb3; have ho2 := own_below ho2 hb3) | (go_at_call 17; with_reducible refine (eqNats xs xs m m true hm.out hm.out (by omega) (by omega) (decide_eq_true rfl) _ _ _ _ _ hr2 hr3).mono ?_; rintro e w4 ⟨rfl, hb4⟩; have z4 := hb4.size; have ho2 := own_below ho2 hb4))
  have q4 : Below w1.heap.size w1 w4 := by (repeat' (first | (with_reducible exact Below.refl _ _) | (with_reducible assumption) | (with_reducible refine Below.alloc ?_ ?_ _) | (with_reducible refine below_drewN ?_ _) | (with_reducible refine Below.drew ?_) | (with_reducible refine Below.setCell ?_ ?_ _) | (with_reducible refine below_two ?_ (by with_reducible assumption)) | go_size))
  go_loopw [13] (fun j wr => ∃ (k : Nat) (ys : List Value), k ≤ m ∧ j = .int .i64 k ∧ wr.ownsRow w1.heap.size 3 1 (.slice A2 m c2) m ys ∧ Below w1.heap.size w1 wr) (fun j _ => m - (intOf j).toNat)
  case atStart => exact ⟨0, _, by omega, rfl, ho2, q4⟩
  case round =>
    obtain ⟨k, ys, hk', rfl, ho, hw⟩ := hrel
    have hz := hw.size
    by_cases hlt : k < m
    · obtain ⟨g, cap, hv, hgb, hgl⟩ := ho.form (by omega)
      have hA2 : A2 = some ⟨g, 0, none⟩ := by injection hv
      subst hA2
      have hyl : ys.length = m := by have := ho.1; omega
      have cK := (ho.cellAt k (by omega)).trans (List.getElem?_eq_getElem (by omega))
      have dK := ho.frozenAt k
      have HO := Lib.hid (ho.stored k (.int .i64 (-9))).1
      have k0 : (0 : Int) ≤ (k : Int) := by omega
      have k1 : (k : Int) < (m : Int) := by omega
      clear hv
      go_wp2
      go_roundw
      case rel => exact ⟨k + 1, _, by omega, by go_num, HO.out, hw.setCell hgb _⟩
      case measure => simp [intOf]; omega
    · have q5 : Below w.heap.size w wr := by (repeat' (first | (with_reducible exact Below.refl _ _) | (with_reducible assumption) | (with_reducible refine Below.alloc ?_ ?_ _) | (with_reducible refine below_drewN ?_ _) | (with_reducible refine Below.drew ?_) | (with_reducible refine Below.setCell ?_ ?_ _) | (with_reducible refine below_two ?_ (by with_reducible assumption)) | go_size))
      have r1 := (hB1.below hw).row hz
      have r2 := (hAB.below q5).row q5.size
      go_wp2_with (first | (go_at_call 18; with_reducible refine (eqWs ws ws n n true hn.out hn.out (by omega) (by omega) (decide_eq_true rfl) _ _ _ _ _ r1 r2).mono ?_; rintro e w5 ⟨rfl, hb5⟩; have z5 := hb5.size) | (go_at_call 14; with_reducible refine (works_any _).mono ?_; rintro e w6 ⟨rfl, hb6⟩; have z6 := hb6.size))
      go_ret
      exact ⟨rfl, by (repeat' (first | (with_reducible exact Below.refl _ _) | (with_reducible assumption) | (with_reducible refine Below.alloc ?_ ?_ _) | (with_reducible refine below_drewN ?_ _) | (with_reducible refine Below.drew ?_) | (with_reducible refine Below.setCell ?_ ?_ _) | (with_reducible refine below_two ?_ (by with_reducible assumption)) | go_size))⟩

theorem linkLists_any (ws : List Nat) (key : Nat) (hk : key < 18446744073709551616) (first : Int) (A : Option Addr) (c : Nat) (hws : ∀ x ∈ ws, x < 18446744073709551616) (hl : ws.length * 8 ≤ 140737488355328) (w : World) (hA : Row w A (wordV ws)) :
    Calls Try.prog 4 #[.slice A ws.length c, .int .u64 key, .int .i64 first] w fun e w' => e = .returned (.bool true) ∧ Below w.heap.size w w' := by
  have h17 := listF_len ws key first
  rcases hx : listF ws key first with ⟨xs, e⟩
  rw [hx] at h17
  exact lists_at ws ws.length (Lib.hid rfl) hl (Lib.hid hws) key hk first A c xs xs.length e (Lib.hid rfl) h17 (Lib.hid hx) w hA

end Go.Proofs.Ytklhlhfplkmpmaa
