/-
  The walks of the reference's laid, Lay, Check, Out, Back.
-/
import Derived.Test.YtindgcbnpbhciaaWalkE
import Derived.WalkKit
import Derived.Deep.DeepMust
import Derived.WalkSpells
import Derived.WalkLawsBesides
import Derived.Handy
import Derived.Lib.Hide
import Derived.Deep.QuietTactic
import Derived.BigQuiet
namespace Go.Proofs.Ytindgcbnpbhciaa
open Go.RowKit

theorem take_next {n : Nat} {a o l : Int} {k : Nat} (h : k < n + 16) : (layL n a o l).take (k + 1) = (layL n a o l).take k ++ [layF n a o l k] := by
  have hk : k < (layL n a o l).length := by rw [layL_len]; exact h
  rw [List.take_succ_eq_append_getElem hk, layL_get hk]
theorem Row.of_one {w : World} {g : Nat} {t : TypeId} {u : Value} (h : Blk w g t #[u]) : Row w (some ⟨g, 0, none⟩) [u] := fun _ =>
  ⟨g, 0, rfl, h.lt, fun j x hx => by rw [Nat.zero_add, h.cell, ← Array.getElem?_toList]; exact hx⟩

/-- What laid hands back: a new block, known whole. -/
def RNew (w : World) (l : List Int) (n : Nat) (e : Ending) (w' : World) : Prop := ∃ g c cur, e = .returned (.slice (some ⟨g, 0, none⟩) n c) ∧ n ≤ c ∧ w.heap.size ≤ g ∧ RowM w' g l ∧ Below w.heap.size w w' ∧ Blk w' g 5 cur ∧ cur.size = c ∧ cur.toList.take n = bV l

set_option maxHeartbeats 2000000 in
theorem rlaid_any (n : Nat) (hn : n ≤ 1024) (a o l : Int) (z : Int) (hz : (n : Int) = z) (w : World) : Calls Try.prog 22 #[.int .i64 z, .int .u8 a, .int .u8 o, .int .u8 l] w (RNew w (layL n a o l) (n + 16)) := by
  subst hz
  obtain ⟨i0, hi, hz0, hz1, hz2⟩ := info_parts Try.infoB
  have I0 := Lib.hid hi
  have I1 := Lib.hid hz0
  have I2 := Lib.hid hz1
  have I3 := Lib.hid hz2
  clear hi hz0 hz1 hz2
  go_enter Try.func22, Try.ntmps22
  go_wp2
  go_loopw [9, 10] (fun t q wr => ∃ (k : Nat) (v : Value), k ≤ n + 16 ∧ q = .int .i64 k ∧ t = v ∧ wr.ownsRow w.heap.size 5 1 v k (bV ((layL n a o l).take k)) ∧ Below w.heap.size w wr) (fun _ q _ => n + 16 - (intOf q).toNat)
  case atStart => exact ⟨0, .slice none 0 0, by omega, rfl, rfl, World.ownsRow_nil _ _ _ _, Below.refl _ _⟩
  case round =>
    obtain ⟨k, v, hk, rfl, rfl, hown, hw⟩ := hrel
    have hz := hw.size
    have k0 : (0 : Int) ≤ (k : Int) := by omega
    by_cases hkl : k < n + 16
    · have k1 : (k : Int) < (n : Int) + 16 := by omega
      have HRd : ∀ x : Int, Hid (Reads (wr.alloc (.cells #[.int .u8 x] 5)) (wr.alloc (.cells #[.int .u8 x] 5)).heap.size 1 (some ⟨wr.heap.size, 0, none⟩) 1 [.int .u8 x]) := fun x => Lib.hid (Row.reads (n := 1) (Row.of_one (Blk.new wr 5 #[.int .u8 x])) rfl)
      by_cases h8 : k < 8 ∨ n + 8 ≤ k
      · have hx : layF n a o l k = a := by unfold layF; rw [if_pos h8]
        rcases h8 with h8 | h8
        · have q1 : (k : Int) < 8 := by omega
          have HO := Lib.hid (hown.alloc (.cells #[.int .u8 a] 5))
          have HX : Hid ((layL n a o l).take k ++ [a] = (layL n a o l).take (k + 1)) := Lib.hid ((take_next hkl).trans (by rw [hx])).symm
          go_wp2_with (first | (at_builtin; refine wpList_append_any _ rfl _ _ 22 rfl w.heap.size 5 i0 (.int .u8 0) 1 1 Try.underlying22 I0.out I1.out I2.out I3.out rfl (by decide) _ k _ rfl HO.out _ (some ⟨wr.heap.size, 0, none⟩) 1 1 [.int .u8 a] rfl (HRd a).out (fun u hu => by simp at hu; subst hu; rfl) (by unfold maxLen; omega) (by omega) (by go_size) ?_; intro v1 w1 ho1 hg1 hq1; clear hq1))
          have hb1 : Below w.heap.size w w1 := below_grown' (by (repeat' (first | (with_reducible exact Below.refl _ _) | (with_reducible assumption) | (with_reducible refine Below.alloc ?_ ?_ _) | (with_reducible refine below_drewN ?_ _) | (with_reducible refine Below.drew ?_) | (with_reducible refine Below.setCell ?_ ?_ _) | (with_reducible refine below_two ?_ (by with_reducible assumption)) | go_size))) hg1 HO.out (by go_size) (Nat.le_refl _)
          have ho2 : w1.ownsRow w.heap.size 5 1 v1 (k + 1) (bV ((layL n a o l).take (k + 1))) := by rw [← HX.out]; unfold bV; rw [List.map_append]; exact ho1
          clear ho1 hg1 HO HX
          go_wp2
          go_roundw
          case rel => exact ⟨k + 1, v1, by omega, by go_num, rfl, ho2, hb1⟩
          case measure => simp [intOf]; omega
        · have q1 : (n : Int) + 8 ≤ (k : Int) := by omega
          have q2 : ¬ (k : Int) < 8 := by omega
          have HO := Lib.hid (hown.alloc (.cells #[.int .u8 a] 5))
          have HX : Hid ((layL n a o l).take k ++ [a] = (layL n a o l).take (k + 1)) := Lib.hid ((take_next hkl).trans (by rw [hx])).symm
          go_wp2_with (first | (at_builtin; refine wpList_append_any _ rfl _ _ 22 rfl w.heap.size 5 i0 (.int .u8 0) 1 1 Try.underlying22 I0.out I1.out I2.out I3.out rfl (by decide) _ k _ rfl HO.out _ (some ⟨wr.heap.size, 0, none⟩) 1 1 [.int .u8 a] rfl (HRd a).out (fun u hu => by simp at hu; subst hu; rfl) (by unfold maxLen; omega) (by omega) (by go_size) ?_; intro v1 w1 ho1 hg1 hq1; clear hq1))
          have hb1 : Below w.heap.size w w1 := below_grown' (by (repeat' (first | (with_reducible exact Below.refl _ _) | (with_reducible assumption) | (with_reducible refine Below.alloc ?_ ?_ _) | (with_reducible refine below_drewN ?_ _) | (with_reducible refine Below.drew ?_) | (with_reducible refine Below.setCell ?_ ?_ _) | (with_reducible refine below_two ?_ (by with_reducible assumption)) | go_size))) hg1 HO.out (by go_size) (Nat.le_refl _)
          have ho2 : w1.ownsRow w.heap.size 5 1 v1 (k + 1) (bV ((layL n a o l).take (k + 1))) := by rw [← HX.out]; unfold bV; rw [List.map_append]; exact ho1
          clear ho1 hg1 HO HX
          go_wp2
          go_roundw
          case rel => exact ⟨k + 1, v1, by omega, by go_num, rfl, ho2, hb1⟩
          case measure => simp [intOf]; omega
      · have q2 : ¬ (k : Int) < 8 := by omega
        have q3 : ¬ (n : Int) + 8 ≤ (k : Int) := by omega
        by_cases h7 : k = n + 7
        · have hx : layF n a o l k = l := by unfold layF; rw [if_neg h8, if_pos h7]
          have q4 : ((k : Int) == (n : Int) + 7) = true := beq_iff_eq.2 (by omega)
          clear h7
          have HO := Lib.hid (hown.alloc (.cells #[.int .u8 l] 5))
          have HX : Hid ((layL n a o l).take k ++ [l] = (layL n a o l).take (k + 1)) := Lib.hid ((take_next hkl).trans (by rw [hx])).symm
          go_wp2_with (first | (at_builtin; refine wpList_append_any _ rfl _ _ 22 rfl w.heap.size 5 i0 (.int .u8 0) 1 1 Try.underlying22 I0.out I1.out I2.out I3.out rfl (by decide) _ k _ rfl HO.out _ (some ⟨wr.heap.size, 0, none⟩) 1 1 [.int .u8 l] rfl (HRd l).out (fun u hu => by simp at hu; subst hu; rfl) (by unfold maxLen; omega) (by omega) (by go_size) ?_; intro v1 w1 ho1 hg1 hq1; clear hq1))
          have hb1 : Below w.heap.size w w1 := below_grown' (by (repeat' (first | (with_reducible exact Below.refl _ _) | (with_reducible assumption) | (with_reducible refine Below.alloc ?_ ?_ _) | (with_reducible refine below_drewN ?_ _) | (with_reducible refine Below.drew ?_) | (with_reducible refine Below.setCell ?_ ?_ _) | (with_reducible refine below_two ?_ (by with_reducible assumption)) | go_size))) hg1 HO.out (by go_size) (Nat.le_refl _)
          have ho2 : w1.ownsRow w.heap.size 5 1 v1 (k + 1) (bV ((layL n a o l).take (k + 1))) := by rw [← HX.out]; unfold bV; rw [List.map_append]; exact ho1
          clear ho1 hg1 HO HX
          go_wp2
          go_roundw
          case rel => exact ⟨k + 1, v1, by omega, by go_num, rfl, ho2, hb1⟩
          case measure => simp [intOf]; omega
        · have hx : layF n a o l k = o := by unfold layF; rw [if_neg h8, if_neg h7]
          have q4 : ((k : Int) == (n : Int) + 7) = false := beq_eq_false_iff_ne.2 (by omega)
          have HO := Lib.hid (hown.alloc (.cells #[.int .u8 o] 5))
          have HX : Hid ((layL n a o l).take k ++ [o] = (layL n a o l).take (k + 1)) := Lib.hid ((take_next hkl).trans (by rw [hx])).symm
          go_wp2_with (first | (at_builtin; refine wpList_append_any _ rfl _ _ 22 rfl w.heap.size 5 i0 (.int .u8 0) 1 1 Try.underlying22 I0.out I1.out I2.out I3.out rfl (by decide) _ k _ rfl HO.out _ (some ⟨wr.heap.size, 0, none⟩) 1 1 [.int .u8 o] rfl (HRd o).out (fun u hu => by simp at hu; subst hu; rfl) (by unfold maxLen; omega) (by omega) (by go_size) ?_; intro v1 w1 ho1 hg1 hq1; clear hq1))
          have hb1 : Below w.heap.size w w1 := below_grown' (by (repeat' (first | (with_reducible exact Below.refl _ _) | (with_reducible assumption) | (with_reducible refine Below.alloc ?_ ?_ _) | (with_reducible refine below_drewN ?_ _) | (with_reducible refine Below.drew ?_) | (with_reducible refine Below.setCell ?_ ?_ _) | (with_reducible refine below_two ?_ (by with_reducible assumption)) | go_size))) hg1 HO.out (by go_size) (Nat.le_refl _)
          have ho2 : w1.ownsRow w.heap.size 5 1 v1 (k + 1) (bV ((layL n a o l).take (k + 1))) := by rw [← HX.out]; unfold bV; rw [List.map_append]; exact ho1
          clear ho1 hg1 HO HX
          go_wp2
          go_roundw
          case rel => exact ⟨k + 1, v1, by omega, by go_num, rfl, ho2, hb1⟩
          case measure => simp [intOf]; omega
    · have hkn : k = n + 16 := by omega
      have hown2 := hown
      rw [hkn, List.take_of_length_le (by rw [layL_len]; exact Nat.le_refl _)] at hown2
      have HOw := Lib.hid hown2
      have k1 : ¬ (k : Int) < (n : Int) + 16 := by omega
      clear hown hown2 hkn
      go_wp2
      go_ret
      obtain ⟨g, c, hv, h0, h1, h2⟩ := RowM.of_own HOw.out (by omega)
      have h3 := HOw.out.2
      subst hv
      rcases h3 with ⟨h3, -⟩ | ⟨g2, cap, cur, h3, -, h4, -, -, h5, h6⟩
      · cases h3
      · cases h3
        exact ⟨g, c, cur, rfl, h0, h1, h2, hw, h4, by omega, by rw [Nat.mul_one] at h6; exact h6⟩

theorem rlay_ok (n : Nat) (h1 : 1 ≤ n) (hn : n ≤ 1024) (w : World) : Calls Try.prog 10 #[.int .i64 (n : Int)] w fun e w' => ∃ g c, e = .returned (.tuple #[.slice (some ⟨g, 0, none⟩) (n + 16) c, .int .i64 0]) ∧ n + 16 ≤ c ∧ w.heap.size ≤ g ∧ RowM w' g (layL n 187 107 165) ∧ Below w.heap.size w w' := by
  have k0 : (1 : Int) ≤ (n : Int) := by omega
  have k1 : (n : Int) ≤ 1024 := by omega
  go_enter Try.func10, Try.ntmps10
  go_wp2_with (first | (go_at_call 22; (with_reducible refine (rlaid_any n hn 187 107 165 (n : Int) rfl _).mono ?_); rintro e w1 ⟨g, c, cur, rfl, hcp, hg, hM, hb, -, -, -⟩))
  go_ret2
  exact ⟨g, c, rfl, hcp, hg, hM, hb⟩
theorem rlay_no (z : Int) (h : z < 1 ∨ 1024 < z) (w : World) : Calls Try.prog 10 #[.int .i64 z] w fun e w' => e = .returned (.tuple #[.slice none 0 0, .int .i64 2]) ∧ w' = w := by
  rcases h with h | h
  all_goals
    go_enter Try.func10, Try.ntmps10
    go_wp2
    go_ret2
    exact ⟨rfl, rfl⟩

theorem rcheck_size (w : World) (A : Option Addr) (n c : Nat) (xs : List Int) (hn : Hid (xs.length = n)) (h : n < 17 ∨ 1040 < n) (out : Bool) : Calls Try.prog 15 #[.slice A n c, .bool out] w (Told w out xs) := by
  have HT : Hid (chkA out xs = 0 ∧ chkE out xs = 2) := Lib.hid (chk_size (by rw [hn.out]; unfold sizeOk; exact decide_eq_false (by omega)))
  rcases h with h | h
  · have k1 : (n : Int) < 17 := by omega
    go_enter Try.func15, Try.ntmps15
    go_wp2
    go_ret2
    exact ⟨by rw [HT.out.1, HT.out.2]; (first | done | rfl), by (repeat' (first | (with_reducible exact Below.refl _ _) | (with_reducible assumption) | (with_reducible refine Below.alloc ?_ ?_ _) | (with_reducible refine below_drewN ?_ _) | (with_reducible refine Below.drew ?_) | (with_reducible refine Below.setCell ?_ ?_ _) | (with_reducible refine below_two ?_ (by with_reducible assumption)) | go_size))⟩
  · have k1 : ¬ (n : Int) < 17 := by omega
    have k2 : 1040 < (n : Int) := by omega
    go_enter Try.func15, Try.ntmps15
    go_wp2
    go_ret2
    exact ⟨by rw [HT.out.1, HT.out.2]; (first | done | rfl), by (repeat' (first | (with_reducible exact Below.refl _ _) | (with_reducible assumption) | (with_reducible refine Below.alloc ?_ ?_ _) | (with_reducible refine below_drewN ?_ _) | (with_reducible refine Below.drew ?_) | (with_reducible refine Below.setCell ?_ ?_ _) | (with_reducible refine below_two ?_ (by with_reducible assumption)) | go_size))⟩

/-- What byte k must be while the object is out: its own bytes may be any. -/
def wantO (xs : List Int) (s k : Nat) : Int := if 8 ≤ k ∧ k < s + 8 then xs.getD k 0 else 204
theorem bad_want {xs : List Int} {s : Nat} (hn : xs.length = s + 16) {k : Nat} : badF true xs k = (xs.getD k 0 != wantO xs s k) := by
  unfold wantO
  by_cases h : 8 ≤ k ∧ k < s + 8
  · rw [if_pos h, bad_mid hn (by omega)]; simp
  · rw [if_neg h]
    unfold badF
    rw [hn, show s + 16 - 8 = s + 8 by omega, decide_eq_true (show k < 8 ∨ s + 8 ≤ k by omega)]
    rfl
theorem bad_lay {xs : List Int} {s : Nat} (hn : xs.length = s + 16) {k : Nat} : badF false xs k = (xs.getD k 0 != layF s 187 107 165 k) := by
  unfold badF
  rw [hn, Nat.add_sub_cancel]
  rfl
theorem getD_at {xs : List Int} {k : Nat} (h : k < xs.length) : xs[k]? = some (xs.getD k 0) := by
  rw [List.getD_eq_getElem?_getD, List.getElem?_eq_getElem h]; rfl

set_option maxHeartbeats 4000000 in
theorem rcheck_in (w : World) (g off s c : Nat) (xs : List Int) (hn : Hid (xs.length = s + 16)) (h1 : 1 ≤ s) (h2 : s ≤ 1024) (hA : Hid (∀ j u, (bV xs)[j]? = some u → w.cell? ⟨g, off + j, none⟩ = some u)) :
    Calls Try.prog 15 #[.slice (some ⟨g, off, none⟩) (s + 16) c, .bool false] w (Told w false xs) := by
  have hsz : Hid (sizeOk xs.length = true) := Lib.hid (by rw [hn.out]; exact sizeOk_iff.2 ⟨by omega, by omega⟩)
  have k1 : (1 : Int) ≤ (s : Int) := by omega
  have k2 : (s : Int) ≤ 1024 := by omega
  obtain ⟨F, hF⟩ : ∃ F, firstB (badF false xs) 0 xs.length = F := ⟨_, rfl⟩
  have HF := Lib.hid hF
  clear hF
  go_enter Try.func15, Try.ntmps15
  go_wp2_with (first | (go_at_call 22; (with_reducible refine (rlaid_any s h2 187 107 165 (s : Int) rfl _).mono ?_); rintro e wX ⟨b, d, cur, rfl, hdc, hbg, hM, hbX, -, -, -⟩))
  have hX : Hid (∀ j u, (bV xs)[j]? = some u → wX.cell? ⟨g, off + j, none⟩ = some u) := Lib.hid (fun j u hu => cell_below hbX (hA.out j u hu))
  obtain ⟨W, hW⟩ : ∃ W, layF s 187 107 165 = W := ⟨_, rfl⟩
  have HBad : Hid (∀ k, k < s + 16 → badF false xs k = (xs.getD k 0 != W k)) := Lib.hid (fun k _ => by rw [← hW]; exact bad_lay hn.out)
  have HW : Hid (∀ k, k < s + 16 → wX.cell? ⟨b, k, none⟩ = some (.int .u8 (W k))) := Lib.hid (fun k hk => by rw [← hW]; exact hM.cell k _ (layL_at hk))
  clear hM hW
  have HX : Hid (∀ k, k < s + 16 → wX.cell? ⟨g, off + k, none⟩ = some (.int .u8 (xs.getD k 0))) := Lib.hid (fun k hk => hX.out k _ (by unfold bV; rw [List.getElem?_map, getD_at (by rw [hn.out]; exact hk)]; rfl))
  cases F with
  | none =>
    have HT := Lib.hid (chk_none hsz.out HF.out)
    have hq : Hid (∀ k, k < s + 16 → xs.getD k 0 = W k) := Lib.hid (fun k hk => by have h := firstB_none.1 HF.out k (Nat.zero_le _) (by rw [hn.out]; omega); rw [HBad.out k hk] at h; simpa using h)
    go_loopw [7] (fun q wr => ∃ (k nq : Nat), k ≤ s + 16 ∧ q = .int .i64 k ∧ wr = wX.drewN nq) (fun q _ => s + 16 - (intOf q).toNat)
    case atStart => exact ⟨0, 0, by omega, rfl, rfl⟩
    case round =>
      obtain ⟨k, nq, hk, rfl, hww⟩ := hrel
      subst hww
      have j0 : (0 : Int) ≤ (k : Int) := by omega
      by_cases hlt : k < s + 16
      · have j1 : (k : Int) < (s : Int) + 16 := by omega
        have cA := HX.out k hlt
        have cB := HW.out k hlt
        rw [← hq.out k hlt] at cB
        obtain ⟨x, hx⟩ : ∃ x, xs.getD k 0 = x := ⟨_, rfl⟩
        rw [hx] at cA cB
        have t0 : (x != x) = false := by simp
        clear hx
        go_wp2
        go_quiet (fail)
        go_wp2
        go_roundw
        case rel => exact ⟨k + 1, _, by omega, by go_num, rfl⟩
        case measure => simp [intOf]; omega
      · have j1 : ¬ (k : Int) < (s : Int) + 16 := by omega
        go_wp2
        go_ret2
        exact ⟨by rw [HT.out.1, HT.out.2]; (first | done | rfl), below_drewN hbX nq⟩
  | some K =>
    have HT := Lib.hid (chk_some hsz.out HF.out)
    obtain ⟨-, hK, hKb, hKq⟩ := firstB_some.1 HF.out
    rw [hn.out, Nat.zero_add] at hK
    have hq : Hid (∀ k, k < K → xs.getD k 0 = W k) := Lib.hid (fun k hk => by have h := hKq k (Nat.zero_le _) hk; rw [HBad.out k (by omega)] at h; simpa using h)
    have hb' : Hid (xs.getD K 0 ≠ W K) := Lib.hid (by rw [HBad.out K hK] at hKb; simpa using hKb)
    clear hKb hKq
    go_loopw [7] (fun q wr => ∃ (k nq : Nat), k ≤ K ∧ q = .int .i64 k ∧ wr = wX.drewN nq) (fun q _ => s + 16 - (intOf q).toNat)
    case atStart => exact ⟨0, 0, by omega, rfl, rfl⟩
    case round =>
      obtain ⟨k, nq, hk, rfl, hww⟩ := hrel
      subst hww
      have j0 : (0 : Int) ≤ (k : Int) := by omega
      have j1 : (k : Int) < (s : Int) + 16 := by omega
      have cA := HX.out k (by omega)
      have cB := HW.out k (by omega)
      by_cases hlt : k < K
      · rw [← hq.out k hlt] at cB
        obtain ⟨x, hx⟩ : ∃ x, xs.getD k 0 = x := ⟨_, rfl⟩
        rw [hx] at cA cB
        have t0 : (x != x) = false := by simp
        clear hx
        go_wp2
        go_quiet (fail)
        go_wp2
        go_roundw
        case rel => exact ⟨k + 1, _, by omega, by go_num, rfl⟩
        case measure => simp [intOf]; omega
      · obtain rfl : k = K := by omega
        have e := hb'.out
        obtain ⟨x, hx⟩ : ∃ x, xs.getD k 0 = x := ⟨_, rfl⟩
        obtain ⟨y, hy⟩ : ∃ y, W k = y := ⟨_, rfl⟩
        rw [hx] at cA e
        rw [hy] at cB e
        have t0 : (x != y) = true := bne_iff_ne.2 e
        clear e hx hy
        go_wp2
        go_quiet (fail)
        go_wp2
        go_ret2
        exact ⟨by rw [HT.out.1, HT.out.2]; (first | done | rfl), by (repeat' (first | (with_reducible exact Below.refl _ _) | (with_reducible assumption) | (with_reducible refine Below.alloc ?_ ?_ _) | (with_reducible refine below_drewN ?_ _) | (with_reducible refine Below.drew ?_) | (with_reducible refine Below.setCell ?_ ?_ _) | (with_reducible refine below_two ?_ (by with_reducible assumption)) | go_size))⟩

end Go.Proofs.Ytindgcbnpbhciaa
