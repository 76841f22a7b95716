/-
  GraceEnds, walked at the list that GraceKnown makes.
-/
import Derived.Test.YtodaknidbdicdaaEnds
import Derived.WalkKit
import Derived.Deep.DeepMust
import Derived.WalkSpells
import Derived.WalkLawsBesides
import Derived.Handy
import Derived.Lib.Hide
import Derived.Deep.QuietTactic
import Derived.BigQuiet
namespace Go.Proofs.Ytodaknidbdicdaa
open Go.RowKit

def Zs : Nat → Gr
  | 0 => Yq 6
  | 1 => Z1
  | 2 => Z2
  | _ => Z3
def Zn (c : Nat) : Int := if c = 0 then 200 else 0
theorem zs_all : ∀ c, c ≤ 3 → Inv (Zs c)
  | 0, _ => (yq_all 6 (by omega)).1
  | 1, _ => (poll_nxt (yq_all 6 (by omega)).1 (x := 0) rfl).1
  | 2, _ => (poll_nxt (zs_all 1 (by omega)) (x := 1) rfl).1
  | 3, _ => (poll_nxt (zs_all 2 (by omega)) (x := 2) rfl).1
theorem depF_zero {G : Gr} (h : G.D = fun _ => 0) (x : Int) : depF G x = 0 := by
  unfold depF
  rw [h]
  cases decide (0 ≤ x ∧ x < (G.C : Int)) <;> rfl

set_option maxRecDepth 100000 in
set_option maxHeartbeats 4000000 in
theorem ends_known (w : World) (L : Nat) (hL : 200 < L) (hl : L ≤ 9223372036854775807) (b0 off cc : Nat) (hb0 : b0 < w.heap.size) (hcell : ∀ k, k < 200 → w.cell? ⟨b0, off + k * 3, none⟩ = some (.int .i64 3) ∧ w.cell? ⟨b0, off + k * 3 + 1, none⟩ = some (.int .i64 0)) :
    Calls Try.prog 21 #[.int .i64 2, .slice (some ⟨b0, off, none⟩) L cc, .int .i64 0] w fun e w' => e = .returned (.bool true) ∧ Below w.heap.size w w' := by
  have hnew := Lib.hid (fun v : World => new_ok 3 (by omega) (by omega) v)
  have HC := Lib.hid hcell
  have m8 : Hid ((2 : Int) % 8 = 2) := Lib.hid rfl
  have m3 : Hid ((0 : Int) % 3 = 0) := Lib.hid rfl
  have m4 : Hid ((3 : Int) % 4 = 3) := Lib.hid rfl
  clear hcell
  go_enter Try.func21, Try.ntmps21
  go_wp2_with (first | (go_at_call 24; (with_reducible refine (bring_any 2 8 (by omega) (by omega) _).mono ?_); rintro e w0 ⟨rfl, hw0⟩; replace hw0 := hw0.symm; subst hw0; rw [m8.out]) | (go_at_call 7; refine (hnew.out _).mono ?_; rintro e w2 ⟨b, rfl, hb, hO, hB⟩))
  rw [← x0_zero] at hO
  go_loopw [9, 10, 11, 59, 64, 69] (fun a q _ _ _ _ wr => ∃ (k : Nat) (z : Int), z = k ∧ k ≤ 200 ∧ a = .int .i64 z ∧ q = .int .i64 z ∧ Hid (GrAt wr b [b] (X0 k)) ∧ Below w.heap.size w wr) (fun _ q _ _ _ _ _ => 200 - (intOf q).toNat)
  case atStart => exact ⟨0, 0, rfl, by omega, rfl, rfl, Lib.hid hO, hB⟩
  case round =>
    clear hO hB
    obtain ⟨k, z, hz, hk, rfl, rfl, HO, hB⟩ := hrel
    have k0 : (0 : Int) ≤ (k : Int) := by omega
    by_cases hk2 : k < 200
    · subst hz
      have k1 : (k : Int) < (L : Int) := by omega
      have k2 : (k : Int) < 200 := by omega
      obtain ⟨d0, d1⟩ := HC.out k hk2
      have d0 := (hB.cell (p := ⟨b0, off + k * 3, none⟩) hb0).trans d0
      have d1 := (hB.cell (p := ⟨b0, off + k * 3 + 1, none⟩) hb0).trans d1
      have HE := Lib.hid (x0_next hk2)
      have hI := Lib.hid (x0_inv (k := k) (by omega))
      have hE6 : Hid ((X0 k).E ≤ 1000000) := Lib.hid (Nat.zero_le _)
      go_wp2_with (first | (go_at_call 24; (with_reducible refine (bring_any 0 3 (by omega) (by omega) _).mono ?_); rintro e w0 ⟨rfl, hw0⟩; replace hw0 := hw0.symm; subst hw0; rw [m3.out]) | (go_at_call 24; (with_reducible refine (bring_any 3 4 (by omega) (by omega) _).mono ?_); rintro e w0 ⟨rfl, hw0⟩; replace hw0 := hw0.symm; subst hw0; rw [m4.out]) | (go_at_call 18; (with_reducible refine (call_any _ HO.out hI.out hE6.out 0 (k : Int) (X0 (k + 1)) 0 HE.out).mono ?_); rintro e w3 ⟨rfl, hN, hT⟩; replace hB := hT.below hB hb hB.size))
      go_roundw
      case rel => exact ⟨k + 1, (k : Int) + 1, by omega, by omega, by go_num, by go_num, Lib.hid hN, hB⟩
      case measure => simp [intOf]; omega
    · obtain rfl : k = 200 := by omega
      obtain rfl : z = 200 := by omega
      have hO := HO.out
      have hDp : Hid (∀ x, depF (X0 200) x = 0) := Lib.hid (depF_zero rfl)
      have hI := Lib.hid (x0_inv (k := 200) (by omega))
      have e1 : (200 : Int) < (L : Int) := by omega
      have e1d : decide ((200 : Int) < (L : Int)) = true := decide_eq_true e1
      clear HO hz
      go_wp2
      go_loopw [12] (fun q wr => ∃ (c : Nat) (z : Int), z = c ∧ c ≤ 3 ∧ q = .int .i64 z ∧ Hid (GrAt wr b [b] (X0 200)) ∧ Below w.heap.size w wr) (fun q _ => 3 - (intOf q).toNat)
      case atStart => exact ⟨0, 0, rfl, by omega, rfl, Lib.hid hO, hB⟩
      case round =>
        clear hO hB
        obtain ⟨c, z, hz, hc3, rfl, HO, hB⟩ := hrel
        have c0 : (0 : Int) ≤ (c : Int) := by omega
        have hO := HO.out
        by_cases hc : c < 3
        · subst hz
          have c1 : (c : Int) < 3 := by omega
          go_wp2
          go_loopw [] (fun w4 => w4 = wr) (fun _ => 0)
          case atStart => exact rfl
          case round =>
            obtain rfl := hrel
            go_wp2_with (first | (go_at_call 19; (with_reducible refine (depth_any _ b _ _ hO hI.out (c : Int)).mono ?_); rintro e wq ⟨rfl, hwq⟩; replace hwq := hwq.symm; subst hwq; rw [hDp.out]))
            go_roundw
            case rel => exact ⟨c + 1, (c : Int) + 1, by omega, by omega, by go_num, HO, hB⟩
            case measure => simp [intOf]; omega
        · obtain rfl : c = 3 := by omega
          obtain rfl : z = 3 := by omega
          clear hz
          go_wp2
          go_loopw [13] (fun q wr => ∃ (i : Nat) (z : Int), z = i ∧ i ≤ 6 ∧ q = .int .i64 z ∧ Hid (GrAt wr b [b] (Yq i)) ∧ Below w.heap.size w wr) (fun q _ => 6 - (intOf q).toNat)
          case atStart => exact ⟨0, 0, rfl, by omega, rfl, HO, hB⟩
          case round =>
            clear HO hO hB
            obtain ⟨i, z, hz, hi6, rfl, HO, hB⟩ := hrel
            have i0 : (0 : Int) ≤ (i : Int) := by omega
            have hO := HO.out
            by_cases hi : i < 6
            · subst hz
              have i1 : (i : Int) < 6 := by omega
              obtain ⟨n1, n2, n3, n4⟩ := yq_all i hi6
              have hI1 := Lib.hid n1
              have hE6 : Hid ((Yq i).E ≤ 1000000) := Lib.hid (by omega)
              have HQ : Hid (quietI (Yq i) ((i : Int) % 3) = (Yq (i + 1), 0)) := Lib.hid (by rw [← yq_next hi]; congr 1)
              clear n1 n2 n3 n4
              go_wp2_with (first | (go_at_call 24; (with_reducible refine (bring_any 0 3 (by omega) (by omega) _).mono ?_); rintro e w0 ⟨rfl, hw0⟩; replace hw0 := hw0.symm; subst hw0; rw [m3.out]) | (go_at_call 17; (with_reducible refine (quiet_any _ hO hI1.out hE6.out ((i : Int) % 3) (Yq (i + 1)) 0 HQ.out).mono ?_); rintro e w3 ⟨rfl, hN, hT⟩; replace hB := hT.below hB hb hB.size))
              go_roundw
              case rel => exact ⟨i + 1, (i : Int) + 1, by omega, by omega, by go_num, Lib.hid hN, hB⟩
              case measure => simp [intOf]; omega
            · obtain rfl : i = 6 := by omega
              obtain rfl : z = 6 := by omega
              clear hz
              have hI6 := Lib.hid (yq_all 6 (by omega)).1
              have hgo := Lib.hid yq_done
              obtain ⟨E6, hE6⟩ : ∃ E6, (Yq 6).E = E6 := ⟨_, rfl⟩
              go_wp2_with (first | (go_at_call 14; (with_reducible refine (done_any _ b _ _ hO hI6.out).mono ?_); rintro e w1 ⟨rfl, hb1⟩; rw [hgo.out, hE6]; replace hO := hO.below hb1; replace hB := hB.trans (hb1.mono hB.size); clear hb1))
              go_loopw [9, 16, 17, 18] (fun a q _ _ wr => ∃ c : Nat, c ≤ 3 ∧ q = .int .i64 c ∧ a = .int .i64 (Zn c) ∧ Hid (GrAt wr b [b] (Zs c)) ∧ Below w.heap.size w wr) (fun _ q _ _ _ => 3 - (intOf q).toNat)
              case atStart => exact ⟨0, by omega, rfl, rfl, Lib.hid hO, hB⟩
              case round =>
                clear HO hO hB
                obtain ⟨c, hc3, rfl, rfl, HO, hB⟩ := hrel
                have hO := HO.out
                rcases (by omega : c = 0 ∨ c = 1 ∨ c = 2 ∨ c = 3) with rfl | rfl | rfl | rfl
                · have hO : GrAt wr b [b] (Yq 6) := hO
                  have hIa : Hid (Inv (Yq 6)) := Lib.hid (zs_all 0 (by omega))
                  have hIb : Hid (Inv Z1) := Lib.hid (zs_all 1 (by omega))
                  have hw := Lib.hid z_w0
                  have H1 : Hid (pollI (Yq 6) 0 = Z1) := Lib.hid rfl
                  obtain ⟨l, hl⟩ : ∃ l, pollL (Yq 6) 0 = l := ⟨_, rfl⟩
                  have H3 := Lib.hid hl
                  have hll : Hid (l.length = 200) := Lib.hid (by rw [← hl]; exact z_len0)
                  clear hl
                  rw [show Zn 0 = 200 from rfl]
                  go_wp2_with (first | (go_at_call 13; ((with_reducible refine (poll_any _ hO hIa.out 0 Z1 0 l H1.out z_e0 H3.out).mono ?_); rintro e w3 ⟨A3, c3, rfl, -, hN, hT⟩; rw [hll.out]; replace hB := hT.below hB hb hB.size)) | (go_at_call 9; (with_reducible refine (waitsOf_any _ b _ _ hN hIb.out 0).mono ?_); rintro e wq ⟨rfl, hwq⟩; replace hwq := hwq.symm; subst hwq; rw [hw.out]))
                  go_roundw
                  case rel => exact ⟨1, by omega, by go_num, by go_num, Lib.hid hN, hB⟩
                  case measure => simp [intOf]
                · have hO : GrAt wr b [b] Z1 := hO
                  have hIa : Hid (Inv Z1) := Lib.hid (zs_all 1 (by omega))
                  have hIb : Hid (Inv Z2) := Lib.hid (zs_all 2 (by omega))
                  have hw := Lib.hid z_w1
                  have H1 : Hid (pollI Z1 1 = Z2) := Lib.hid rfl
                  obtain ⟨l, hl⟩ : ∃ l, pollL Z1 1 = l := ⟨_, rfl⟩
                  have H3 := Lib.hid hl
                  have hll : Hid (l.length = 0) := Lib.hid (by rw [← hl]; exact z_len1)
                  clear hl
                  rw [show Zn 1 = 0 from rfl]
                  go_wp2_with (first | (go_at_call 13; ((with_reducible refine (poll_any _ hO hIa.out 1 Z2 0 l H1.out z_e1 H3.out).mono ?_); rintro e w3 ⟨A3, c3, rfl, -, hN, hT⟩; rw [hll.out]; replace hB := hT.below hB hb hB.size)) | (go_at_call 9; (with_reducible refine (waitsOf_any _ b _ _ hN hIb.out 1).mono ?_); rintro e wq ⟨rfl, hwq⟩; replace hwq := hwq.symm; subst hwq; rw [hw.out]))
                  go_roundw
                  case rel => exact ⟨2, by omega, by go_num, by go_num, Lib.hid hN, hB⟩
                  case measure => simp [intOf]
                · have hO : GrAt wr b [b] Z2 := hO
                  have hIa : Hid (Inv Z2) := Lib.hid (zs_all 2 (by omega))
                  have hIb : Hid (Inv Z3) := Lib.hid (zs_all 3 (by omega))
                  have hw := Lib.hid z_w2
                  have H1 : Hid (pollI Z2 2 = Z3) := Lib.hid rfl
                  obtain ⟨l, hl⟩ : ∃ l, pollL Z2 2 = l := ⟨_, rfl⟩
                  have H3 := Lib.hid hl
                  have hll : Hid (l.length = 0) := Lib.hid (by rw [← hl]; exact z_len2)
                  clear hl
                  rw [show Zn 2 = 0 from rfl]
                  go_wp2_with (first | (go_at_call 13; ((with_reducible refine (poll_any _ hO hIa.out 2 Z3 0 l H1.out z_e2 H3.out).mono ?_); rintro e w3 ⟨A3, c3, rfl, -, hN, hT⟩; rw [hll.out]; replace hB := hT.below hB hb hB.size)) | (go_at_call 9; (with_reducible refine (waitsOf_any _ b _ _ hN hIb.out 2).mono ?_); rintro e wq ⟨rfl, hwq⟩; replace hwq := hwq.symm; subst hwq; rw [hw.out]))
                  go_roundw
                  case rel => exact ⟨3, by omega, by go_num, by go_num, Lib.hid hN, hB⟩
                  case measure => simp [intOf]
                · rw [show Zn 3 = 0 from rfl]
                  go_wp2_with (first | (go_at_call 6; (with_reducible refine (works_any _).mono ?_); rintro e w4 ⟨rfl, hb4⟩; replace hB := hB.trans (hb4.mono hB.size)))
                  go_ret
                  exact ⟨rfl, hB⟩

end Go.Proofs.Ytodaknidbdicdaa
