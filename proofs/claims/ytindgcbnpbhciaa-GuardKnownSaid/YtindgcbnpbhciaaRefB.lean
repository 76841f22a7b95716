/-
  The walk of the reference's Check of an object that is out.
-/
import Derived.Test.YtindgcbnpbhciaaRef
import Derived.WalkKit
import Derived.Deep.DeepMust
import Derived.WalkSpells
import Derived.WalkLawsBesides
import Derived.Handy
import Derived.Lib.Hide
import Derived.Deep.QuietTactic
import Derived.BigQuiet
namespace Go.Proofs.Ytindgcbnpbhciaa
open Go.RowKit

theorem splice_want {L : List Value} {xs : List Int} {s : Nat} (hn : xs.length = s + 16) (hL : L.take (s + 16) = bV (layL s 204 0 0)) {k : Nat} (hk : k < s + 16) : (splice L 8 (bV ((xs.drop 8).take s)))[k]? = some (.int .u8 (wantO xs s k)) := by
  have hl : s + 16 ≤ L.length := by
    have h := congrArg List.length hL
    rw [List.length_take, bV_len, layL_len] at h
    omega
  have hc : (bV ((xs.drop 8).take s)).length = s := by rw [bV_len, List.length_take, List.length_drop, hn]; omega
  have hLk : ∀ j, j < s + 16 → L[j]? = some (.int .u8 (layF s 204 0 0 j)) := fun j hj => by
    have h : (L.take (s + 16))[j]? = (bV (layL s 204 0 0))[j]? := by rw [hL]
    rw [List.getElem?_take_of_lt hj] at h
    rw [h]
    unfold bV
    rw [List.getElem?_map, layL_at hj]
    rfl
  unfold splice
  by_cases h8 : k < 8
  · rw [List.getElem?_append_left (by rw [List.length_take]; omega), List.getElem?_take_of_lt h8, hLk k hk]
    unfold layF wantO
    rw [if_pos (Or.inl h8), if_neg (by omega)]
  · rw [List.getElem?_append_right (by rw [List.length_take]; omega), List.length_take, Nat.min_eq_left (by omega)]
    by_cases hs : k < s + 8
    · rw [List.getElem?_append_left (by rw [hc]; omega)]
      unfold bV wantO
      rw [List.getElem?_map, List.getElem?_take_of_lt (by omega), List.getElem?_drop, show 8 + (k - 8) = k by omega, getD_at (by omega), if_pos (by omega)]
      rfl
    · rw [List.getElem?_append_right (by rw [hc]; omega), hc, List.getElem?_drop, show 8 + s + (k - 8 - s) = k by omega, hLk k hk]
      unfold layF wantO
      rw [if_pos (by omega), if_neg (by omega)]

set_option maxHeartbeats 4000000 in
theorem rcheck_out (w : World) (g off s c : Nat) (xs : List Int) (hn : Hid (xs.length = s + 16)) (hc : s + 16 ≤ c) (h1 : 1 ≤ s) (h2 : s ≤ 1024) (hA : Hid (∀ j u, (bV xs)[j]? = some u → w.cell? ⟨g, off + j, none⟩ = some u)) :
    Calls Try.prog 15 #[.slice (some ⟨g, off, none⟩) (s + 16) c, .bool true] w (Told w true xs) := by
  have hsz : Hid (sizeOk xs.length = true) := Lib.hid (by rw [hn.out]; exact sizeOk_iff.2 ⟨by omega, by omega⟩)
  have k1 : (1 : Int) ≤ (s : Int) := by omega
  have k2 : (s : Int) ≤ 1024 := by omega
  obtain ⟨F, hF⟩ : ∃ F, firstB (badF true xs) 0 xs.length = F := ⟨_, rfl⟩
  have HF := Lib.hid hF
  have j1 : (8 : Int) ≤ (s : Int) + 8 := by omega
  have j2 : (s : Int) + 8 ≤ (c : Int) := by omega
  have j3 : ¬ c = 8 := by omega
  have hwr : IntKind.i64.wrap ((s : Int) + 16 - 8) = (s : Int) + 8 := by rw [IntKind.wrap_i64]; omega
  have j6 : max ((s : Int) + 8) 0 = (s : Int) + 8 := by omega
  have j7 : ((s : Int) + 8).toNat = s + 8 := by omega
  have j8 : (0 : Int) ≤ (s : Int) + 8 := by omega
  have t1 : decide ((s : Int) + 16 < 17) = false := decide_eq_false (by omega)
  have t2 : decide (1040 < (s : Int) + 16) = false := decide_eq_false (by omega)
  have hcl : Hid ((bV ((xs.drop 8).take s)).length = s) := Lib.hid (by rw [bV_len, List.length_take, List.length_drop, hn.out]; omega)
  clear hF
  go_enter Try.func15, Try.ntmps15
  go_wp2_with (first | (go_at_call 22; (with_reducible refine (rlaid_any s h2 187 107 165 (s : Int) rfl _).mono ?_); rintro e w0 ⟨b0, d0, cur0, rfl, hdc0, hbg0, hM0, hb0, -, -, -⟩; clear hM0; have z0 := hb0.size) | (go_at_call 22; (with_reducible refine (rlaid_any s h2 204 0 0 (s : Int) rfl _).mono ?_); rintro e w1 ⟨b, d, cur, rfl, hdc, hbg, hM, hb1, hBk, hcs, hct⟩; have hbw : Below w.heap.size w w1 := hb0.trans (hb1.mono z0); have j4 : (s : Int) + 8 ≤ (d : Int) := (by omega); have j5 : ¬ d = 8 := (by omega)))
  have HB := Lib.hid (show w1.heap[b]? = some (.cells cur.toList.toArray 5 (0, 0)) by rw [Array.toArray_toList]; exact hBk)
  have HMin : Hid ((bV ((xs.drop 8).take s)).length = Nat.min s s) := Lib.hid (by rw [hcl.out]; exact (Nat.min_self s).symm)
  have HFit : Hid (8 + (bV ((xs.drop 8).take s)).length ≤ cur.toList.length) := Lib.hid (by rw [hcl.out, Array.length_toList, hcs]; omega)
  have HS : Hid (∀ j u, (bV ((xs.drop 8).take s))[j]? = some u → w1.cell? ((⟨g, off + 8, none⟩ : Addr).add j) = some u) := Lib.hid (fun j u hu => by
    rw [addr_add, Nat.add_assoc]
    refine cell_below hbw (hA.out (8 + j) u ?_)
    have hj : j < s := by
      rcases Nat.lt_or_ge j s with h | h
      · exact h
      · rw [List.getElem?_eq_none (by rw [hcl.out]; exact h)] at hu; cases hu
    unfold bV at hu ⊢
    rw [List.getElem?_map, List.getElem?_take_of_lt hj, List.getElem?_drop] at hu
    rw [List.getElem?_map]
    exact hu)
  have HWn : Hid (∀ k, k < s + 16 → (splice cur.toList 8 (bV ((xs.drop 8).take s)))[k]? = some (.int .u8 (wantO xs s k))) := Lib.hid (fun k hk => splice_want hn.out hct hk)
  have hwb : w.heap.size ≤ b := by omega
  clear hM hBk hcs hct
  go_region_law (refine step_copy_splice rfl (.tmp 29) (.tmp 34) 22 22 rfl 5 Try.underlying22 (by kernel_rfl) (some ⟨b, 8, none⟩) (some ⟨g, off + 8, none⟩) s (d - 8) s (c - 8) (by simp [Act.eval, Act.put]) (by simp [Act.eval, Act.put]) b 8 cur.toList 5 HB.out (bV ((xs.drop 8).take s)) HMin.out (fun _ => ⟨rfl, _, rfl, HS.out⟩) HFit.out (bV_one _) w.heap.size w (by (repeat' (first | (with_reducible exact Below.refl _ _) | (with_reducible assumption) | (with_reducible refine Below.alloc ?_ ?_ _) | (with_reducible refine below_drewN ?_ _) | (with_reducible refine Below.drew ?_) | (with_reducible refine Below.setCell ?_ ?_ _) | (with_reducible refine below_two ?_ (by with_reducible assumption)) | go_size))) hwb ?_; intro wX HG2 hbX)
  have hX : Hid (∀ j u, (bV xs)[j]? = some u → wX.cell? ⟨g, off + j, none⟩ = some u) := Lib.hid (fun j u hu => cell_below hbX (hA.out j u hu))
  obtain ⟨W, hW⟩ : ∃ W, wantO xs s = W := ⟨_, rfl⟩
  have HBad : Hid (∀ k, k < s + 16 → badF true xs k = (xs.getD k 0 != W k)) := Lib.hid (fun k _ => by rw [← hW]; exact bad_want hn.out)
  have HW : Hid (∀ k, k < s + 16 → wX.cell? ⟨b, k, none⟩ = some (.int .u8 (W k))) := Lib.hid (fun k hk => by
    rw [← hW, ← HWn.out k hk, show wX.cell? ⟨b, k, none⟩ = (splice cur.toList 8 (bV ((xs.drop 8).take s))).toArray[k]? from Blk.cell (t := 5) HG2.out k]
    simp)
  clear HB HMin HFit HS HWn HG2 hW hwr j6 j7
  go_wp2
  try simp [Act.put]
  have HX : Hid (∀ k, k < s + 16 → wX.cell? ⟨g, off + k, none⟩ = some (.int .u8 (xs.getD k 0))) := Lib.hid (fun k hk => hX.out k _ (by unfold bV; rw [List.getElem?_map, getD_at (by rw [hn.out]; exact hk)]; rfl))
  cases F with
  | none =>
    have HT := Lib.hid (chk_none hsz.out HF.out)
    have hq : Hid (∀ k, k < s + 16 → xs.getD k 0 = W k) := Lib.hid (fun k hk => by have h := firstB_none.1 HF.out k (Nat.zero_le _) (by rw [hn.out]; omega); rw [HBad.out k hk] at h; simpa using h)
    go_loopw [7] (fun q wr => ∃ (k nq : Nat), k ≤ s + 16 ∧ q = .int .i64 k ∧ wr = wX.drewN nq) (fun q _ => s + 16 - (intOf q).toNat)
    case atStart => exact ⟨0, 0, by omega, rfl, rfl⟩
    case round =>
      obtain ⟨k, nq, hk, rfl, hww⟩ := hrel
      subst hww
      have j0 : (0 : Int) ≤ (k : Int) := by omega
      by_cases hlt : k < s + 16
      · have j1 : (k : Int) < (s : Int) + 16 := by omega
        have cA := HX.out k hlt
        have cB := HW.out k hlt
        rw [← hq.out k hlt] at cB
        obtain ⟨x, hx⟩ : ∃ x, xs.getD k 0 = x := ⟨_, rfl⟩
        rw [hx] at cA cB
        have t0 : (x != x) = false := by simp
        clear hx
        go_wp2
        go_quiet (fail)
        go_wp2
        go_roundw
        case rel => exact ⟨k + 1, _, by omega, by go_num, rfl⟩
        case measure => simp [intOf]; omega
      · have j1 : ¬ (k : Int) < (s : Int) + 16 := by omega
        go_wp2
        go_ret2
        exact ⟨by rw [HT.out.1, HT.out.2]; (first | done | rfl), below_drewN hbX nq⟩
  | some K =>
    have HT := Lib.hid (chk_some hsz.out HF.out)
    obtain ⟨-, hK, hKb, hKq⟩ := firstB_some.1 HF.out
    rw [hn.out, Nat.zero_add] at hK
    have hq : Hid (∀ k, k < K → xs.getD k 0 = W k) := Lib.hid (fun k hk => by have h := hKq k (Nat.zero_le _) hk; rw [HBad.out k (by omega)] at h; simpa using h)
    have hb' : Hid (xs.getD K 0 ≠ W K) := Lib.hid (by rw [HBad.out K hK] at hKb; simpa using hKb)
    clear hKb hKq
    go_loopw [7] (fun q wr => ∃ (k nq : Nat), k ≤ K ∧ q = .int .i64 k ∧ wr = wX.drewN nq) (fun q _ => s + 16 - (intOf q).toNat)
    case atStart => exact ⟨0, 0, by omega, rfl, rfl⟩
    case round =>
      obtain ⟨k, nq, hk, rfl, hww⟩ := hrel
      subst hww
      have j0 : (0 : Int) ≤ (k : Int) := by omega
      have j1 : (k : Int) < (s : Int) + 16 := by omega
      have cA := HX.out k (by omega)
      have cB := HW.out k (by omega)
      by_cases hlt : k < K
      · rw [← hq.out k hlt] at cB
        obtain ⟨x, hx⟩ : ∃ x, xs.getD k 0 = x := ⟨_, rfl⟩
        rw [hx] at cA cB
        have t0 : (x != x) = false := by simp
        clear hx
        go_wp2
        go_quiet (fail)
        go_wp2
        go_roundw
        case rel => exact ⟨k + 1, _, by omega, by go_num, rfl⟩
        case measure => simp [intOf]; omega
      · obtain rfl : k = K := by omega
        have e := hb'.out
        obtain ⟨x, hx⟩ : ∃ x, xs.getD k 0 = x := ⟨_, rfl⟩
        obtain ⟨y, hy⟩ : ∃ y, W k = y := ⟨_, rfl⟩
        rw [hx] at cA e
        rw [hy] at cB e
        have t0 : (x != y) = true := bne_iff_ne.2 e
        clear e hx hy
        go_wp2
        go_quiet (fail)
        go_wp2
        go_ret2
        exact ⟨by rw [HT.out.1, HT.out.2]; (first | done | rfl), by (repeat' (first | (with_reducible exact Below.refl _ _) | (with_reducible assumption) | (with_reducible refine Below.alloc ?_ ?_ _) | (with_reducible refine below_drewN ?_ _) | (with_reducible refine Below.drew ?_) | (with_reducible refine Below.setCell ?_ ?_ _) | (with_reducible refine below_two ?_ (by with_reducible assumption)) | go_size))⟩

theorem rcheck_any (w : World) (A : Option Addr) (n c : Nat) (xs : List Int) (hn : Hid (xs.length = n)) (hnc : n ≤ c) (hA : Row w A (bV xs)) (out : Bool) : Calls Try.prog 15 #[.slice A n c, .bool out] w (Told w out xs) := by
  by_cases h : n < 17 ∨ 1040 < n
  · exact rcheck_size w A n c xs hn h out
  · obtain ⟨s, rfl⟩ : ∃ s, n = s + 16 := ⟨n - 16, by omega⟩
    obtain ⟨g, off, rfl, -, hc⟩ := hA (by rw [bV_len, hn.out]; omega)
    cases out
    · exact rcheck_in w g off s c xs hn (by omega) (by omega) (Lib.hid hc)
    · exact rcheck_out w g off s c xs hn hnc (by omega) (by omega) (Lib.hid hc)

end Go.Proofs.Ytindgcbnpbhciaa
