/-
  The walk of the closed law MemNames.
-/
import Derived.Test.YtfhbfjlbflkbhaaLawF
import Derived.WalkKit
import Derived.Deep.DeepMust
import Derived.WalkSpells
import Derived.WalkLawsBesides
import Derived.Handy
import Derived.Lib.Hide
import Derived.Deep.QuietTactic
import Derived.BigQuiet
namespace Go.Proofs.Ytfhbfjlbflkbhaa
open Go.RowKit

theorem ldA_n {ws : List Nat} {n : Nat} (h : ws.length = n) (i : Int) : ldA ws i = bif okA n 1 i then atA ws i else 0 := by unfold ldA; rw [h]
theorem stA_n {ws : List Nat} {n : Nat} (h : ws.length = n) (i : Int) (v : Nat) : stA ws i v = bif okA n 1 i then ws.set i.toNat v else ws := by unfold stA; rw [h]
theorem dsA_n {ws : List Nat} {n : Nat} (h : ws.length = n) (i : Int) (o s : Nat) : dsA ws i o s = (okA n 2 i && decide (atA ws i = o ∧ atA ws (i + 1) = s)) := by unfold dsA; rw [h]

set_option maxRecDepth 100000 in
set_option maxHeartbeats 4000000 in
theorem names_any (w : World) : Calls Try.prog 7 #[] w fun e w' => e = .returned (.bool true) ∧ Below w.heap.size w w' := by
  obtain ⟨ws0, h0, l0, z1, z2⟩ : ∃ ws0 : List Nat, List.replicate 4096 0 = ws0 ∧ ws0.length = 4096 ∧ atA ws0 4094 = 0 ∧ atA ws0 (4094 + 1) = 0 :=
    ⟨_, rfl, List.length_replicate, by simp [atA, List.getD], by simp [atA, List.getD]⟩
  obtain ⟨M, hMx⟩ : ∃ M : Nat, M = 18446744073709551615 := ⟨_, rfl⟩
  have HX : Hid ((M : Int) = 18446744073709551615) := Lib.hid (by rw [hMx]; rfl)
  obtain ⟨ws1, h1⟩ : ∃ ws1, dwA ws0 4094 0 0 1 1 = ws1 := ⟨_, rfl⟩
  have l1 : ws1.length = 4096 := by rw [← h1, dwA_len]; exact l0
  obtain ⟨ws2, h2⟩ : ∃ ws2, stA ws1 0 M = ws2 := ⟨_, rfl⟩
  have l2 : ws2.length = 4096 := by rw [← h2, stA_len]; exact l1
  obtain ⟨ws3, h3⟩ : ∃ ws3, adA ws2 0 2 = ws3 := ⟨_, rfl⟩
  have l3 : ws3.length = 4096 := by rw [← h3, adA_len]; exact l2
  have k0 : okA 4096 1 0 = true := by decide
  have e1 : Hid ((ldA ws0 (-1) : Int) = 0) := Lib.hid (by rw [ldA_n l0, show okA 4096 1 (-1) = false by decide]; rfl)
  have e2 : Hid (stA ws0 4096 1 = ws0) := Lib.hid (by rw [stA_n l0, show okA 4096 1 4096 = false by decide]; rfl)
  have e3 : Hid (dsA ws0 4095 0 0 = false) := Lib.hid (by rw [dsA_n l0, show okA 4096 2 4095 = false by decide]; rfl)
  have e4 : Hid (dwA ws0 4095 0 0 1 1 = ws0) := Lib.hid (by unfold dwA; rw [e3.out]; rfl)
  have e5 : Hid (dsA ws0 4094 0 0 = true) := Lib.hid (by rw [dsA_n l0, show okA 4096 2 4094 = true by decide, decide_eq_true ⟨z1, z2⟩]; rfl)
  have e6 : ws2 = ws1.set 0 M := by rw [← h2, stA_n l1, k0]; rfl
  have e7 : atA ws2 0 = M := by
    rw [e6]
    unfold atA
    rw [show (0 : Int).toNat = 0 from rfl, List.getD_eq_getElem?_getD, List.getElem?_set_self (by omega)]
    rfl
  have e8 : Hid ((ldA ws2 0 : Int) = 18446744073709551615) := Lib.hid (by rw [ldA_n l2, k0, cond_true, e7]; exact HX.out)
  have e9 : Hid ((ldA ws3 0 : Int) = 1) := Lib.hid (by
    rw [ldA_n l3, k0, cond_true, ← h3]
    unfold adA
    rw [stA_n l2, k0, cond_true, e7, hMx]
    unfold atA
    rw [show (0 : Int).toNat = 0 from rfl, List.getD_eq_getElem?_getD, List.getElem?_set_self (by omega)]
    rfl)
  have L0 := Lib.hid l0
  have L1 := Lib.hid l1
  have L2 := Lib.hid l2
  have L3 := Lib.hid l3
  have H0 := Lib.hid h0
  have H1 := Lib.hid h1
  have H2 := Lib.hid h2
  have H3 := Lib.hid h3
  clear l0 l1 l2 l3 h0 h1 h2 h3 z1 z2 k0 e6 e7 hMx
  go_enter Try.func7, Try.ntmps7
  go_wp2_with (first | (go_at_call 10; with_reducible refine (new_err 0 (by omega) _).mono ?_; rintro e w0 ⟨rfl, hw0⟩; replace hw0 := hw0.symm; subst hw0) | (go_at_call 10; with_reducible refine (new_err 4097 (by omega) _).mono ?_; rintro e w0 ⟨rfl, hw0⟩; replace hw0 := hw0.symm; subst hw0) | (go_at_call 10; with_reducible refine (new_z 4096 4096 rfl (by omega) (by omega) ws0 H0.out _).mono ?_; rintro e w1 ⟨b, g, rfl, hM, hb, hg, hB⟩) | (go_at_call 12; with_reducible refine (load_z _ b g ws0 0 4096 hM L0 (by omega) (by omega) (-1) 0 9 0 e1.out (by decide) (by decide)).mono ?_; rintro e w1 ⟨rfl, hN, hT⟩; replace hB := hT.below hB hb hg hB.size; clear hT hM; have hM := hN; clear hN) | (go_at_call 13; with_reducible refine (store_z _ b g ws0 0 4096 hM L0 (by omega) (by omega) 4096 1 1 rfl ws0 9 0 e2.out (by decide) (by decide)).mono ?_; rintro e w1 ⟨rfl, hN, hT⟩; replace hB := hT.below hB hb hg hB.size; clear hT hM; have hM := hN; clear hN) | (go_at_call 14; with_reducible refine (cas2_z _ b g ws0 0 4096 hM L0 (by omega) (by omega) 4095 0 0 1 1 0 0 1 1 rfl rfl rfl rfl ws0 false 9 0 e4.out e3.out (by decide) (by decide)).mono ?_; rintro e w1 ⟨rfl, hN, hT⟩; replace hB := hT.below hB hb hg hB.size; clear hT hM; have hM := hN; clear hN) | (go_at_call 14; with_reducible refine (cas2_z _ b g ws0 0 4096 hM L0 (by omega) (by omega) 4094 0 0 1 1 0 0 1 1 rfl rfl rfl rfl ws1 true 0 1 H1.out e5.out (by decide) (by decide)).mono ?_; rintro e w1 ⟨rfl, hN, hT⟩; replace hB := hT.below hB hb hg hB.size; clear hT hM; have hM := hN; clear hN) | (go_at_call 13; with_reducible refine (store_z _ b g ws1 1 4096 hM L1 (by omega) (by omega) 0 M 18446744073709551615 HX.out ws2 0 2 H2.out (by decide) (by decide)).mono ?_; rintro e w1 ⟨rfl, hN, hT⟩; replace hB := hT.below hB hb hg hB.size; clear hT hM; have hM := hN; clear hN) | (go_at_call 11; with_reducible refine (add_z _ b g ws2 2 4096 hM L2 (by omega) (by omega) 0 2 2 rfl ws3 18446744073709551615 0 3 H3.out e8.out (by decide) (by decide)).mono ?_; rintro e w1 ⟨rfl, hN, hT⟩; replace hB := hT.below hB hb hg hB.size; clear hT hM; have hM := hN; clear hN) | (go_at_call 12; with_reducible refine (load_z _ b g ws3 3 4096 hM L3 (by omega) (by omega) 0 1 0 4 e9.out (by decide) (by decide)).mono ?_; rintro e w1 ⟨rfl, hN, hT⟩; replace hB := hT.below hB hb hg hB.size; clear hT hM; have hM := hN; clear hN))
  go_loopw [19, 20] (fun v j wr => ∃ k : Nat, k ≤ 2 ∧ j = .int .i64 k ∧ NoMem wr v ∧ MemAt 52 wr b g ws3 4 ∧ Below w.heap.size w wr) (fun _ j _ => 2 - (intOf j).toNat)
  case atStart => exact ⟨0, by omega, rfl, NoMem.nil _, hM, hB⟩
  case round =>
    clear hM hB
    obtain ⟨k, hk, rfl, hNo, hM, hB⟩ := hrel
    by_cases hlt : k < 2
    · have k2 : (k : Int) < 2 := by omega
      go_wp2_with (first | (go_at_call 12; with_reducible refine (load_none _ _ hNo).mono ?_; rintro e w1 ⟨rfl, hb1⟩; replace hNo := hNo.below hb1; replace hM := hM.below hb1; replace hB := hB.trans (hb1.mono hB.size); clear hb1) | (go_at_call 13; with_reducible refine (store_none _ _ hNo).mono ?_; rintro e w1 ⟨rfl, hb1⟩; replace hNo := hNo.below hb1; replace hM := hM.below hb1; replace hB := hB.trans (hb1.mono hB.size); clear hb1) | (go_at_call 15; with_reducible refine (cas_none _ _ hNo).mono ?_; rintro e w1 ⟨rfl, hb1⟩; replace hNo := hNo.below hb1; replace hM := hM.below hb1; replace hB := hB.trans (hb1.mono hB.size); clear hb1) | (go_at_call 14; with_reducible refine (cas2_none _ _ hNo).mono ?_; rintro e w1 ⟨rfl, hb1⟩; replace hNo := hNo.below hb1; replace hM := hM.below hb1; replace hB := hB.trans (hb1.mono hB.size); clear hb1) | (go_at_call 11; with_reducible refine (add_none _ _ hNo).mono ?_; rintro e w1 ⟨rfl, hb1⟩; replace hNo := hNo.below hb1; replace hM := hM.below hb1; replace hB := hB.trans (hb1.mono hB.size); clear hb1) | (go_at_call 20; with_reducible refine (len_none _ _ hNo).mono ?_; rintro e w1 ⟨rfl, hb1⟩; replace hNo := hNo.below hb1; replace hM := hM.below hb1; replace hB := hB.trans (hb1.mono hB.size); clear hb1) | (go_at_call 22; with_reducible refine (words_none _ _ hNo).mono ?_; rintro e w1 ⟨rfl, hb1⟩; replace hNo := hNo.below hb1; replace hM := hM.below hb1; replace hB := hB.trans (hb1.mono hB.size); clear hb1) | (go_at_call 18; with_reducible refine (count_none _ _ hNo).mono ?_; rintro e w1 ⟨rfl, hb1⟩; replace hNo := hNo.below hb1; replace hM := hM.below hb1; replace hB := hB.trans (hb1.mono hB.size); clear hb1))
      go_roundw
      case rel => exact ⟨k + 1, by omega, by go_num, .inr ⟨_, rfl, Blk.new _ _ _⟩, hM.alloc _, hB.alloc hB.size _⟩
      case measure => simp [intOf]; omega
    · go_wp2_with (first | (go_at_call 20; with_reducible refine (len_any _ b g ws3 4 4096 hM L3).mono ?_; rintro e w0 ⟨rfl, hw0⟩; replace hw0 := hw0.symm; subst hw0) | (go_at_call 8; with_reducible refine (works_any _).mono ?_; rintro e w4 ⟨rfl, hb4⟩; replace hB := hB.trans (hb4.mono hB.size); replace hM := hM.below hb4))
      go_ret
      exact ⟨rfl, hB⟩

end Go.Proofs.Ytfhbfjlbflkbhaa
