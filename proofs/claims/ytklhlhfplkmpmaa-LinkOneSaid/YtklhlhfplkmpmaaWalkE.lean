/-
  The walks of Fresh, of both texts.
-/
import Derived.Test.YtklhlhfplkmpmaaWalkD
namespace Go.Proofs.Ytklhlhfplkmpmaa
open Go.RowKit

theorem Try.info22 : (Try.prog.info? 22).map (fun i => (i.zero, i.size, i.bytes)) = some (some (.int .u64 0), 1, 8) := by kernel_rfl

def freshW (n key i : Nat) : Nat := if i + 1 = n then turnF key i else hideW (i + 2) key i
def freshL (n key : Nat) : List Nat := (List.range n).map (freshW n key)
def freshF (n : Int) (key : Nat) : List Nat × Int := if 1 ≤ n ∧ n ≤ 16 then (freshL n.toNat key, 0) else ([], 2)
def FreshPost (w : World) (R : List Nat × Int) (e : Ending) (w' : World) : Prop :=
  ∃ v, e = .returned (.tuple #[v, .int .i64 R.2]) ∧ w'.ownsRow w.heap.size 22 1 v R.1.length (wordV R.1) ∧ Below w.heap.size w w'

/-- The cells behind k rounds: the first k are links. -/
def partL (n key k : Nat) : List Value := (List.range n).map fun i => Value.int .u64 ((if i < k then hideW (i + 2) key i else 0 : Nat) : Int)
theorem partL_zero (n key : Nat) : partL n key 0 = List.replicate n (.int .u64 0) := by
  apply List.ext_getElem?
  intro i
  unfold partL
  rcases Nat.lt_or_ge i n with h | h
  · rw [List.getElem?_map, List.getElem?_range h, List.getElem?_replicate, if_pos h]
    simp
  · rw [List.getElem?_eq_none (by simp; omega), List.getElem?_eq_none (by simp; omega)]
theorem partL_at {n key k i : Nat} (h : i < n) : (partL n key k)[i]? = some (.int .u64 ((if i < k then hideW (i + 2) key i else 0 : Nat) : Int)) := by
  unfold partL
  rw [List.getElem?_map, List.getElem?_range h]
  rfl
theorem partL_set {n key k : Nat} (h : k < n) : (partL n key k).set k (.int .u64 (hideW (k + 2) key k : Nat)) = partL n key (k + 1) := by
  apply List.ext_getElem?
  intro i
  rw [List.getElem?_set]
  rcases Nat.lt_or_ge i n with hi | hi
  · by_cases hik : k = i
    · subst hik
      rw [if_pos rfl, if_pos (by simp [partL]; exact h), partL_at h, if_pos (Nat.lt_succ_self k)]
    · rw [if_neg hik, partL_at hi, partL_at hi]
      congr 3
      by_cases h1 : i < k
      · rw [if_pos h1, if_pos (by omega)]
      · rw [if_neg h1, if_neg (by omega)]
  · rw [if_neg (by omega), List.getElem?_eq_none (by simp [partL]; omega), List.getElem?_eq_none (by simp [partL]; omega)]
theorem partL_last {n key : Nat} : (partL (n + 1) key (n + 1)).set n (.int .u64 (turnF key n : Nat)) = wordV (freshL (n + 1) key) := by
  apply List.ext_getElem?
  intro i
  rw [List.getElem?_set]
  rcases Nat.lt_or_ge i (n + 1) with hi | hi
  · have e : (wordV (freshL (n + 1) key))[i]? = some (.int .u64 (freshW (n + 1) key i : Nat)) := by
      simp only [wordV, freshL, List.map_map, List.getElem?_map, List.getElem?_range hi]
      rfl
    rw [e]
    unfold freshW
    by_cases hin : n = i
    · subst hin
      rw [if_pos rfl, if_pos (by simp [partL]), if_pos rfl]
    · rw [if_neg hin, partL_at hi, if_pos (by omega), if_neg (by omega)]
  · rw [if_neg (by omega), List.getElem?_eq_none (by simp [partL]; omega), List.getElem?_eq_none (by simp [freshL]; omega)]

theorem xor_fresh {k : Nat} (hk : k < 16) (key : Nat) : bits .xor .u64 ((k : Int) + 2) (turnF key k : Nat) = ((hideW (k + 2) key k : Nat) : Int) := by
  have := bits_xor_u64_nat (k + 2) (turnF key k) (by omega) (turnF_lt _ _)
  rw [Int.natCast_add] at this
  exact this

set_option maxHeartbeats 1000000 in
theorem fresh_ok (n key : Nat) (hn : n < 16) (hk : key < 18446744073709551616) (w : World) : Calls Try.prog 19 #[.int .i64 ((n + 1 : Nat) : Int), .int .u64 key] w (FreshPost w (freshL (n + 1) key, 0)) := by
  obtain ⟨i0, hi, hz0, hz1, hz2⟩ := info_parts Try.info22
  obtain ⟨w1, hmk, hown0, hgr⟩ := run_make_full (P := Try.prog) w w.heap.size 26 22 i0 (.int .u64 0) 1 Try.underlying26 hi hz0 hz1 .i64 .i64 (n + 1) (by rw [hz2]; omega) (by unfold maxLen; omega) (Nat.le_refl _)
  have hb1 : Below w.heap.size w w1 := below_grown (Below.refl _ _) hgr (Nat.le_refl _) (fun g hg => by cases hg)
  have H0 : Hid (w1.ownsRow w.heap.size 22 1 (.slice (some ⟨w.heap.size, 0, none⟩) (n + 1) (n + 1)) (n + 1) (partL (n + 1) key 0)) := Lib.hid (by
    rw [partL_zero]
    have : (madeCells (Value.int .u64 0).cells ((n + 1) * 1)).toList = List.replicate (n + 1) (.int .u64 0) := by
      rw [Nat.mul_one]
      exact toList_madeCells_one _ _
    rw [this] at hown0
    exact hown0)
  rw [Int.natCast_add, Int.natCast_one] at hmk ⊢
  clear hi hz0 hz1 hz2 hown0 hgr
  go_enter Try.func19, Try.ntmps19
  go_wp2
  go_loopw [18] (fun j wr => ∃ k : Nat, k ≤ n + 1 ∧ j = .int .i64 k ∧ Hid (wr.ownsRow w.heap.size 22 1 (.slice (some ⟨w.heap.size, 0, none⟩) (n + 1) (n + 1)) (n + 1) (partL (n + 1) key k)) ∧ Below w.heap.size w wr) (fun j _ => n + 1 - (intOf j).toNat)
  case atStart => exact ⟨0, by omega, rfl, H0, hb1⟩
  case round =>
    clear hmk
    obtain ⟨k, hk', rfl, HO, hw⟩ := hrel
    have hz := hw.size
    by_cases hlt : k < n + 1
    · have cK := (HO.out.cellAt k (by omega)).trans (partL_at hlt)
      have dK := HO.out.frozenAt k
      rw [if_neg (Nat.lt_irrefl k)] at cK
      have hx := xor_fresh (k := k) (by omega) key
      have HN := HO.out.stored k (.int .u64 (hideW (k + 2) key k : Nat))
      rw [partL_set hlt] at HN
      have HN1 := Lib.hid HN.1
      have k0 : (0 : Int) ≤ (k : Int) := by omega
      have k1 : (k : Int) < (n : Int) + 1 := by omega
      clear HN
      go_wp2_with (first | (go_at_call 24; with_reducible refine (turned_any key hk k (by omega) _).mono ?_; rintro e w0 ⟨rfl, hw0⟩; replace hw0 := hw0.symm; subst hw0))
      go_roundw
      case rel => exact ⟨k + 1, by omega, by go_num, HN1, by (repeat' (first | (with_reducible exact Below.refl _ _) | (with_reducible assumption) | (with_reducible refine Below.alloc ?_ ?_ _) | (with_reducible refine below_drewN ?_ _) | (with_reducible refine Below.drew ?_) | (with_reducible refine Below.setCell ?_ ?_ _) | (with_reducible refine below_two ?_ (by with_reducible assumption)) | go_size))⟩
      case measure => simp [intOf]; omega
    · have hkn : k = n + 1 := by omega
      subst hkn
      have cK := (HO.out.cellAt n (by omega)).trans (partL_at (Nat.lt_succ_self n))
      have dK := HO.out.frozenAt n
      have HN := HO.out.stored n (.int .u64 (turnF key n : Nat))
      rw [partL_last] at HN
      have HN1 := Lib.hid HN.1
      have k0 : (0 : Int) ≤ (n : Int) := by omega
      have k1 : (n : Int) < (n : Int) + 1 := by omega
      clear HN
      go_wp2_with (first | (go_at_call 24; with_reducible refine (turned_any key hk n hn _).mono ?_; rintro e w0 ⟨rfl, hw0⟩; replace hw0 := hw0.symm; subst hw0))
      go_ret2
      exact ⟨_, rfl, by simpa [freshL] using HN1.out, by (repeat' (first | (with_reducible exact Below.refl _ _) | (with_reducible assumption) | (with_reducible refine Below.alloc ?_ ?_ _) | (with_reducible refine below_drewN ?_ _) | (with_reducible refine Below.drew ?_) | (with_reducible refine Below.setCell ?_ ?_ _) | (with_reducible refine below_two ?_ (by with_reducible assumption)) | go_size))⟩

theorem hide_last {n key : Nat} (hn : n < 16) : hideF (-1) key (n : Int) = (((freshW (n + 1) key n : Nat) : Int), 0) := by
  unfold hideF freshW
  rw [if_pos ⟨by decide, (okA_iff _).2 ⟨by omega, by omega⟩⟩, if_pos rfl]
  simp [hideW]
theorem hide_mid {n key k : Nat} (hn : n < 16) (hk : k < n) : hideF ((k : Int) + 1) key (k : Int) = (((freshW (n + 1) key k : Nat) : Int), 0) := by
  unfold hideF freshW
  rw [if_pos ⟨(okN_iff _).2 ⟨by omega, by omega⟩, (okA_iff _).2 ⟨by omega, by omega⟩⟩, if_neg (by omega)]
  have e : ((k : Int) + 1 + 1).toNat = k + 2 := by omega
  rw [e, Int.toNat_natCast]
theorem freshL_snoc (n key k : Nat) : (List.range (k + 1)).map (freshW n key) = (List.range k).map (freshW n key) ++ [freshW n key k] := by
  rw [List.range_succ, List.map_append]
  rfl
theorem freshW_lt {n key i : Nat} (h : i + 2 < 18446744073709551616) : freshW n key i < 18446744073709551616 := by
  unfold freshW
  split
  · exact turnF_lt _ _
  · exact hideW_lt h _ _

set_option maxHeartbeats 1000000 in
theorem refFresh_ok (n key : Nat) (hn : n < 16) (hk : key < 18446744073709551616) (w : World) : Calls Try.prog 20 #[.int .i64 ((n + 1 : Nat) : Int), .int .u64 key] w (FreshPost w (freshL (n + 1) key, 0)) := by
  obtain ⟨i0, hi, hz0, hz1, hz2⟩ := info_parts Try.info22
  have I0 := Lib.hid hi
  have I1 := Lib.hid hz0
  have I2 := Lib.hid hz1
  have I3 := Lib.hid hz2
  rw [Int.natCast_add, Int.natCast_one]
  clear hi hz0 hz1 hz2
  go_enter Try.func20, Try.ntmps20
  go_wp2
  go_loopw [7, 6] (fun j v wr => ∃ k : Nat, k ≤ n + 1 ∧ j = .int .i64 k ∧ wr.ownsRow w.heap.size 22 1 v k (wordV ((List.range k).map (freshW (n + 1) key))) ∧ Below w.heap.size w wr) (fun j _ _ => n + 1 - (intOf j).toNat)
  case atStart => exact ⟨0, by omega, rfl, World.ownsRow_nil _ _ _ _, Below.refl _ _⟩
  case round =>
    obtain ⟨k, hk', rfl, hown, hw⟩ := hrel
    have hz := hw.size
    by_cases hlt : k < n + 1
    · obtain ⟨x, hx⟩ : ∃ x, freshW (n + 1) key k = x := ⟨_, rfl⟩
      have HS := Lib.hid (freshL_snoc (n + 1) key k)
      rw [hx] at HS
      have HO2 := Lib.hid (hown.alloc (.cells #[.int .u64 x] 22))
      have HC2 := Lib.hid (one_news wr wr (.int .u64 x) 22 rfl)
      have HW2 : Hid (Below w.heap.size w (wr.alloc (.cells #[.int .u64 x] 22))) := Lib.hid (by (repeat' (first | (with_reducible exact Below.refl _ _) | (with_reducible assumption) | (with_reducible refine Below.alloc ?_ ?_ _) | (with_reducible refine below_drewN ?_ _) | (with_reducible refine Below.drew ?_) | (with_reducible refine Below.setCell ?_ ?_ _) | (with_reducible refine below_two ?_ (by with_reducible assumption)) | go_size)))
      have hrow := Lib.hid hown
      by_cases hkn : k = n
      · have HH : Hid (hideF (-1) key k = ((x : Int), 0)) := Lib.hid (by subst hkn; rw [hide_last hn, hx])
        have he : ((k : Int) + 1 == (n : Int) + 1) = true := by rw [beq_iff_eq]; omega
        clear hx hkn hown
        go_wp2_with (first | (go_at_call 11; with_reducible refine (refHide_at (-1) key hk k _ _ HH.out _).mono ?_; rintro e w0 ⟨rfl, hw0⟩; replace hw0 := hw0.symm; subst hw0) | (at_builtin; refine wpList_append_own_at _ rfl _ _ 26 rfl w.heap.size 22 i0 (.int .u64 0) 1 8 Try.underlying26 I0.out I1.out I2.out I3.out rfl (by decide) _ _ _ rfl HO2.out ⟨wr.heap.size, 0, none⟩ 1 1 [.int .u64 x] rfl rfl HC2.out (fun u hu => by simp at hu; subst hu; rfl) (by unfold maxLen; omega) (by omega) (by simp; omega) ?_; intro v' w1 hown1 hgr1 hq1 hq2; clear hq1 hq2; have hw1 := below_grown HW2.out hgr1 (by simp; omega) (fun g hg => (hrow.out.lt g hg).1)))
        go_roundw
        case rel => exact ⟨k + 1, by omega, by go_num, by rw [HS.out, show wordV ((List.range k).map (freshW (n + 1) key) ++ [x]) = wordV ((List.range k).map (freshW (n + 1) key)) ++ [.int .u64 (x : Int)] by simp]; exact hown1, hw1⟩
        case measure => simp [intOf]; omega
      · have HH : Hid (hideF ((k : Int) + 1) key k = ((x : Int), 0)) := Lib.hid (by rw [hide_mid hn (by omega), hx])
        have he : ((k : Int) + 1 == (n : Int) + 1) = false := by rw [beq_eq_false_iff_ne]; omega
        clear hx hown
        go_wp2_with (first | (go_at_call 11; with_reducible refine (refHide_at (k + 1) key hk k _ _ HH.out _).mono ?_; rintro e w0 ⟨rfl, hw0⟩; replace hw0 := hw0.symm; subst hw0) | (at_builtin; refine wpList_append_own_at _ rfl _ _ 26 rfl w.heap.size 22 i0 (.int .u64 0) 1 8 Try.underlying26 I0.out I1.out I2.out I3.out rfl (by decide) _ _ _ rfl HO2.out ⟨wr.heap.size, 0, none⟩ 1 1 [.int .u64 x] rfl rfl HC2.out (fun u hu => by simp at hu; subst hu; rfl) (by unfold maxLen; omega) (by omega) (by simp; omega) ?_; intro v' w1 hown1 hgr1 hq1 hq2; clear hq1 hq2; have hw1 := below_grown HW2.out hgr1 (by simp; omega) (fun g hg => (hrow.out.lt g hg).1)))
        go_roundw
        case rel => exact ⟨k + 1, by omega, by go_num, by rw [HS.out, show wordV ((List.range k).map (freshW (n + 1) key) ++ [x]) = wordV ((List.range k).map (freshW (n + 1) key)) ++ [.int .u64 (x : Int)] by simp]; exact hown1, hw1⟩
        case measure => simp [intOf]; omega
    · have hkn : k = n + 1 := by omega
      subst hkn
      go_wp2
      go_ret2
      exact ⟨_, rfl, by simpa [freshL] using hown, by (repeat' (first | (with_reducible exact Below.refl _ _) | (with_reducible assumption) | (with_reducible refine Below.alloc ?_ ?_ _) | (with_reducible refine below_drewN ?_ _) | (with_reducible refine Below.drew ?_) | (with_reducible refine Below.setCell ?_ ?_ _) | (with_reducible refine below_two ?_ (by with_reducible assumption)) | go_size))⟩

theorem fresh_any (n : Int) (key : Nat) (hk : key < 18446744073709551616) (w : World) : Calls Try.prog 19 #[.int .i64 n, .int .u64 key] w (FreshPost w (freshF n key)) := by
  by_cases h : 1 ≤ n ∧ n ≤ 16
  · obtain ⟨m, hm⟩ : ∃ m : Nat, n = ((m + 1 : Nat) : Int) := ⟨(n - 1).toNat, by omega⟩
    subst hm
    rw [show freshF ((m + 1 : Nat) : Int) key = (freshL (m + 1) key, 0) by unfold freshF; rw [if_pos h, Int.toNat_natCast]]
    exact fresh_ok m key (by omega) hk w
  · rw [show freshF n key = ([], 2) by unfold freshF; rw [if_neg h]]
    have h' : n < 1 ∨ 16 < n := by omega
    clear h
    rcases h' with h' | h'
    all_goals
      go_enter Try.func19, Try.ntmps19
      go_wp2
      go_ret2
      exact ⟨.slice none 0 0, rfl, World.ownsRow_nil _ _ _ _, by (repeat' (first | (with_reducible exact Below.refl _ _) | (with_reducible assumption) | (with_reducible refine Below.alloc ?_ ?_ _) | (with_reducible refine below_drewN ?_ _) | (with_reducible refine Below.drew ?_) | (with_reducible refine Below.setCell ?_ ?_ _) | (with_reducible refine below_two ?_ (by with_reducible assumption)) | go_size))⟩
theorem refFresh_any (n : Int) (key : Nat) (hk : key < 18446744073709551616) (w : World) : Calls Try.prog 20 #[.int .i64 n, .int .u64 key] w (FreshPost w (freshF n key)) := by
  by_cases h : 1 ≤ n ∧ n ≤ 16
  · obtain ⟨m, hm⟩ : ∃ m : Nat, n = ((m + 1 : Nat) : Int) := ⟨(n - 1).toNat, by omega⟩
    subst hm
    rw [show freshF ((m + 1 : Nat) : Int) key = (freshL (m + 1) key, 0) by unfold freshF; rw [if_pos h, Int.toNat_natCast]]
    exact refFresh_ok m key (by omega) hk w
  · rw [show freshF n key = ([], 2) by unfold freshF; rw [if_neg h]]
    have h' : n < 1 ∨ 16 < n := by omega
    clear h
    rcases h' with h' | h'
    all_goals
      go_enter Try.func20, Try.ntmps20
      go_wp2
      go_ret2
      exact ⟨.slice none 0 0, rfl, World.ownsRow_nil _ _ _ _, by (repeat' (first | (with_reducible exact Below.refl _ _) | (with_reducible assumption) | (with_reducible refine Below.alloc ?_ ?_ _) | (with_reducible refine below_drewN ?_ _) | (with_reducible refine Below.drew ?_) | (with_reducible refine Below.setCell ?_ ?_ _) | (with_reducible refine below_two ?_ (by with_reducible assumption)) | go_size))⟩

end Go.Proofs.Ytklhlhfplkmpmaa
