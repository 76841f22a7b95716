/-
  The walk of MemOthers.
-/
import Derived.Test.YtfhbfjlbflkbhaaLawC
import Derived.Test.YtfhbfjlbflkbhaaRecs
import Derived.WalkKit
import Derived.Deep.DeepMust
import Derived.WalkSpells
import Derived.WalkLawsBesides
import Derived.Handy
import Derived.Lib.Hide
import Derived.Deep.QuietTactic
import Derived.BigQuiet
namespace Go.Proofs.Ytfhbfjlbflkbhaa
open Go.RowKit

def doK : List IntKind := [.i64, .i64, .u64, .u64, .u64, .u64]

theorem Blk.two {w w' : World} {b g k : Nat} {t : TypeId} {cs : Array Value} (h : Blk w k t cs) (hT : Two b g w w') (h1 : k ≠ b) (h2 : k ≠ g) : Blk w' k t cs := (hT.block k h.lt h1 h2).trans h
theorem ld_other {ws : List Nat} {p q : Nat} (v : Nat) (h : p ≠ q) : ldA (stA ws (p : Int) v) (q : Int) = ldA ws (q : Int) := by
  unfold ldA
  rw [stA_len]
  cases okA ws.length 1 (q : Int) with
  | false => rfl
  | true =>
    show atA (stA ws p v) q = atA ws q
    unfold stA
    cases okA ws.length 1 (p : Int) with
    | false => rfl
    | true => simp [atA, List.getD, List.getElem?_set_ne h]
theorem ld_add {ws : List Nat} {p q : Nat} (v : Nat) (h : p ≠ q) : ldA (adA ws (p : Int) v) (q : Int) = ldA ws (q : Int) := ld_other _ h
theorem ld_cas {ws : List Nat} {p q : Nat} (o v : Nat) (h : p ≠ q) : ldA (cwA ws (p : Int) o v) (q : Int) = ldA ws (q : Int) := by
  unfold ldA
  rw [cwA_len]
  cases okA ws.length 1 (q : Int) with
  | false => rfl
  | true =>
    show atA (cwA ws p o v) q = atA ws q
    unfold cwA
    cases csA ws (p : Int) o with
    | false => rfl
    | true => simp [atA, List.getD, List.getElem?_set_ne h]
theorem ld_cas2 {ws : List Nat} {p q : Nat} (o s v x : Nat) (h : p ≠ q) (h2 : p + 1 ≠ q) : ldA (dwA ws (p : Int) o s v x) (q : Int) = ldA ws (q : Int) := by
  unfold ldA
  rw [dwA_len]
  cases okA ws.length 1 (q : Int) with
  | false => rfl
  | true =>
    show atA (dwA ws p o s v x) q = atA ws q
    unfold dwA
    cases dsA ws (p : Int) o s with
    | false => rfl
    | true => simp [atA, List.getD, List.getElem?_set_ne h, List.getElem?_set_ne h2]

set_option maxRecDepth 100000 in
set_option maxHeartbeats 4000000 in
theorem others_any (L : Nat) (F : Nat → Nat → Int) (A : Option Addr) (c : Nat) (at_ : Int) (hl : L ≤ 9223372036854775807) (w : World) (hA : Recs w A L 6 doK F) :
    Calls Try.prog 5 #[.slice A L c, .int .i64 at_] w fun e w' => e = .returned (.bool true) ∧ Below w.heap.size w w' := by
  obtain ⟨q, hq⟩ : ∃ q : Nat, at_ % 12 = (q : Int) := ⟨(at_ % 12).toNat, by omega⟩
  have hq12 : q < 12 := by omega
  have HQ := Lib.hid hq
  have HA := Lib.hid hA
  clear hA hq
  go_enter Try.func5, Try.ntmps5
  go_wp2_with (first | (go_at_call 10; with_reducible refine (new_z 12 12 rfl (by omega) (by omega) _ rfl _).mono ?_; rintro e w1 ⟨b, g, rfl, hM, hb, hg, hB⟩) | (go_at_call 9; with_reducible refine (bring_n at_ 12 q HQ.out (by omega) (by omega) _).mono ?_; rintro e w0 ⟨rfl, hw0⟩; replace hw0 := hw0.symm; subst hw0))
  go_loopw [8] (fun j wr => ∃ (k cnt : Nat) (ws : List Nat), k ≤ L ∧ k ≤ 40 ∧ j = .int .i64 k ∧ cnt ≤ 10 * k ∧ Hid (ws.length = 12) ∧ MemAt 52 wr b g ws cnt ∧ Below w.heap.size w wr) (fun j _ => 40 - (intOf j).toNat)
  case atStart => exact ⟨0, 0, _, by omega, by omega, rfl, by omega, Lib.hid (by simp), hM, hB⟩
  case round =>
    clear hM hB
    obtain ⟨k, cnt, ws, hkL, hk40, rfl, hcn, hn, hM, hB⟩ := hrel
    have hz := hB.size
    by_cases hlt : k < L ∧ k < 40
    · obtain ⟨hlt1, hlt2⟩ := hlt
      obtain ⟨b0, off, rfl, hbl, hcell⟩ := HA.out (by omega)
      obtain ⟨K, hK⟩ : ∃ K, F k 0 = K := ⟨_, rfl⟩
      obtain ⟨P, hP⟩ : ∃ P, F k 1 = P := ⟨_, rfl⟩
      have e0 := (hcell k hlt1 0 (by omega)).1
      have e1 := (hcell k hlt1 1 (by omega)).1
      have f2 := hcell k hlt1 2 (by omega)
      have f3 := hcell k hlt1 3 (by omega)
      have f4 := hcell k hlt1 4 (by omega)
      have f5 := hcell k hlt1 5 (by omega)
      obtain ⟨a2, h2⟩ : ∃ a : Nat, F k 2 = (a : Int) := Int.eq_ofNat_of_zero_le ((Lit.wf_int_iff _ _).1 f2.2).1
      obtain ⟨a3, h3⟩ : ∃ a : Nat, F k 3 = (a : Int) := Int.eq_ofNat_of_zero_le ((Lit.wf_int_iff _ _).1 f3.2).1
      obtain ⟨a4, h4⟩ : ∃ a : Nat, F k 4 = (a : Int) := Int.eq_ofNat_of_zero_le ((Lit.wf_int_iff _ _).1 f4.2).1
      obtain ⟨a5, h5⟩ : ∃ a : Nat, F k 5 = (a : Int) := Int.eq_ofNat_of_zero_le ((Lit.wf_int_iff _ _).1 f5.2).1
      have c0 : w.cell? ⟨b0, off + k * 6, none⟩ = some (.int .i64 K) := by rw [← hK]; exact e0
      have c1 : w.cell? ⟨b0, off + k * 6 + 1, none⟩ = some (.int .i64 P) := by rw [← hP]; exact e1
      have c2 : w.cell? ⟨b0, off + k * 6 + 2, none⟩ = some (.int .u64 (a2 : Int)) := by rw [← h2]; exact f2.1
      have c3 : w.cell? ⟨b0, off + k * 6 + 3, none⟩ = some (.int .u64 (a3 : Int)) := by rw [← h3]; exact f3.1
      have c4 : w.cell? ⟨b0, off + k * 6 + 4, none⟩ = some (.int .u64 (a4 : Int)) := by rw [← h4]; exact f4.1
      have c5 : w.cell? ⟨b0, off + k * 6 + 5, none⟩ = some (.int .u64 (a5 : Int)) := by rw [← h5]; exact f5.1
      obtain ⟨p, hp⟩ : ∃ p : Nat, P % 12 = (p : Int) := ⟨(P % 12).toNat, by omega⟩
      obtain ⟨r, hr⟩ : ∃ r : Nat, K % 5 = (r : Int) := ⟨(K % 5).toNat, by omega⟩
      have hp12 : p < 12 := by omega
      have hr5 : r < 5 := by omega
      have HP := Lib.hid hp
      have HR := Lib.hid hr
      have k0 : (0 : Int) ≤ (k : Int) := by omega
      have k1 : (k : Int) < (L : Int) := by omega
      have k2 : (k : Int) < 40 := by omega
      have H0 := Lib.hid c0
      have H1 := Lib.hid c1
      have H2 := Lib.hid c2
      have H3 := Lib.hid c3
      have H4 := Lib.hid c4
      have H5 := Lib.hid c5
      clear hcell e0 e1 f2 f3 f4 f5 h2 h3 h4 h5 hK hP hp hr c0 c1 c2 c3 c4 c5
      have er : erA 12 1 q = 0 := by unfold erA; rw [okA_iff.2 ⟨by omega, by omega⟩]; rfl
      have cn : ∀ n, n + cnA 12 1 q = n + 1 := fun n => by unfold cnA; rw [okA_iff.2 ⟨by omega, by omega⟩]; rfl
      have ER := Lib.hid er
      have CN := Lib.hid cn
      clear er cn
      obtain ⟨x1, hx1⟩ : ∃ x : Int, (ldA ws q : Int) = x := ⟨_, rfl⟩
      have HX := Lib.hid hx1
      have l1 := cnA_le 12 1 p
      have l2 := cnA_le 12 2 p
      have l3 := cnA_le 12 1 q
      clear hx1
      by_cases hpq : p = q
      · have t1 : ((p : Int) == (q : Int)) = true := by rw [beq_iff_eq]; omega
        have HH := Lib.hid hpq
        clear hpq
        go_wp2_with (first | (go_at_call 12; with_reducible refine (load_z _ b g ws cnt 12 hM hn (by omega) (by omega) q x1 0 (cnt + 1) HX.out ER.out (CN.out cnt)).mono ?_; rintro e w3 ⟨rfl, hN, hT⟩; replace hB := hT.below hB hb hg hB.size; clear hT hM; have hM := hN; clear hN; have d0 := (hB.cell (p := ⟨b0, off + k * 6, none⟩) hbl).trans H0.out; have d1 := (hB.cell (p := ⟨b0, off + k * 6 + 1, none⟩) hbl).trans H1.out; have d2 := (hB.cell (p := ⟨b0, off + k * 6 + 2, none⟩) hbl).trans H2.out; have d3 := (hB.cell (p := ⟨b0, off + k * 6 + 3, none⟩) hbl).trans H3.out; have d4 := (hB.cell (p := ⟨b0, off + k * 6 + 4, none⟩) hbl).trans H4.out; have d5 := (hB.cell (p := ⟨b0, off + k * 6 + 5, none⟩) hbl).trans H5.out; have hXb : w3.heap.size ≠ b := by { have := hM.head.lt; omega }; have hXg : w3.heap.size ≠ g := by { have := hM.row.lt; omega }) | (go_at_call 9; with_reducible refine (bring_n P 12 p HP.out (by omega) (by omega) _).mono ?_; rintro e w0 ⟨rfl, hw0⟩; replace hw0 := hw0.symm; subst hw0) | (go_at_call 9; with_reducible refine (bring_n K 5 r HR.out (by omega) (by omega) _).mono ?_; rintro e w0 ⟨rfl, hw0⟩; replace hw0 := hw0.symm; subst hw0) | (go_at_call 13; with_reducible refine (store_z _ b g ws (cnt + 1) 12 (hM.alloc _) hn (by omega) (by omega) p a2 _ rfl _ _ _ rfl rfl rfl).mono ?_; rintro e w4 ⟨rfl, hN, hT⟩; replace hB := hT.below (hB.alloc hB.size _) hb hg (Nat.le_trans hB.size (by simp)); have hK := (Blk.new w3 41 #[.int .i64 K, .int .i64 (p : Int), .int .u64 (a2 : Int), .int .u64 (a3 : Int), .int .u64 (a4 : Int), .int .u64 (a5 : Int)]).two hT hXb hXg; clear hT hM; have hM := hN; clear hN; have hkc := hK.cell; have hn2 := Lib.hid ((stA_len ws p a2).trans hn.out)) | (go_at_call 15; with_reducible refine (cas_z _ b g ws (cnt + 1) 12 (hM.alloc _) hn (by omega) (by omega) p a2 a3 _ _ rfl rfl _ _ _ _ rfl rfl rfl rfl).mono ?_; rintro e w4 ⟨rfl, hN, hT⟩; replace hB := hT.below (hB.alloc hB.size _) hb hg (Nat.le_trans hB.size (by simp)); have hK := (Blk.new w3 41 #[.int .i64 K, .int .i64 (p : Int), .int .u64 (a2 : Int), .int .u64 (a3 : Int), .int .u64 (a4 : Int), .int .u64 (a5 : Int)]).two hT hXb hXg; clear hT hM; have hM := hN; clear hN; have hkc := hK.cell; have hn2 := Lib.hid ((cwA_len ws p a2 a3).trans hn.out)) | (go_at_call 14; with_reducible refine (cas2_z _ b g ws (cnt + 1) 12 (hM.alloc _) hn (by omega) (by omega) p a2 a3 a4 a5 _ _ _ _ rfl rfl rfl rfl _ _ _ _ rfl rfl rfl rfl).mono ?_; rintro e w4 ⟨rfl, hN, hT⟩; replace hB := hT.below (hB.alloc hB.size _) hb hg (Nat.le_trans hB.size (by simp)); have hK := (Blk.new w3 41 #[.int .i64 K, .int .i64 (p : Int), .int .u64 (a2 : Int), .int .u64 (a3 : Int), .int .u64 (a4 : Int), .int .u64 (a5 : Int)]).two hT hXb hXg; clear hT hM; have hM := hN; clear hN; have hkc := hK.cell; have hn2 := Lib.hid ((dwA_len ws p a2 a3 a4 a5).trans hn.out)) | (go_at_call 11; with_reducible refine (add_z _ b g ws (cnt + 1) 12 (hM.alloc _) hn (by omega) (by omega) p a2 _ rfl _ _ _ _ rfl rfl rfl rfl).mono ?_; rintro e w4 ⟨rfl, hN, hT⟩; replace hB := hT.below (hB.alloc hB.size _) hb hg (Nat.le_trans hB.size (by simp)); have hK := (Blk.new w3 41 #[.int .i64 K, .int .i64 (p : Int), .int .u64 (a2 : Int), .int .u64 (a3 : Int), .int .u64 (a4 : Int), .int .u64 (a5 : Int)]).two hT hXb hXg; clear hT hM; have hM := hN; clear hN; have hkc := hK.cell; have hn2 := Lib.hid ((adA_len ws p a2).trans hn.out)) | (go_at_call 12; with_reducible refine (load_z _ b g _ _ 12 hM hn2 (by omega) (by omega) q _ 0 _ rfl ER.out rfl).mono ?_; rintro e w5 ⟨rfl, hN, hT⟩; replace hB := hT.below hB hb hg hB.size; replace hK := hK.two hT hXb hXg; clear hT hM hkc; have hM := hN; clear hN; have hkc := hK.cell) | (go_at_call 12; with_reducible refine (load_z _ b g ws (cnt + 1) 12 (hM.alloc _) hn (by omega) (by omega) q _ 0 _ rfl ER.out rfl).mono ?_; rintro e w5 ⟨rfl, hN, hT⟩; replace hB := hT.below (hB.alloc hB.size _) hb hg (Nat.le_trans hB.size (by simp)); have hK := (Blk.new w3 41 #[.int .i64 K, .int .i64 (p : Int), .int .u64 (a2 : Int), .int .u64 (a3 : Int), .int .u64 (a4 : Int), .int .u64 (a5 : Int)]).two hT hXb hXg; clear hT hM; have hM := hN; clear hN; have hkc := hK.cell; have hn2 := hn))
        all_goals
          go_roundw
          case rel => exact ⟨k + 1, _, _, by omega, by omega, by go_num, by omega, hn2, hM, hB⟩
          case measure => simp [intOf]; omega
      · have t1 : ((p : Int) == (q : Int)) = false := by rw [beq_eq_false_iff_ne]; omega
        by_cases hr3 : r = 3
        · have t2 : ((r : Int) == 3) = true := by rw [beq_iff_eq]; omega
          have t3 : ((r : Int) == 1) = false := by rw [beq_eq_false_iff_ne]; omega
          have t4 : ((r : Int) == 2) = false := by rw [beq_eq_false_iff_ne]; omega
          clear hr3
          by_cases hp1 : p + 1 = q
          · have t5 : ((p : Int) + 1 == (q : Int)) = true := by rw [beq_iff_eq]; omega
            have HH := Lib.hid hp1
            clear hp1
            go_wp2_with (first | (go_at_call 12; with_reducible refine (load_z _ b g ws cnt 12 hM hn (by omega) (by omega) q x1 0 (cnt + 1) HX.out ER.out (CN.out cnt)).mono ?_; rintro e w3 ⟨rfl, hN, hT⟩; replace hB := hT.below hB hb hg hB.size; clear hT hM; have hM := hN; clear hN; have d0 := (hB.cell (p := ⟨b0, off + k * 6, none⟩) hbl).trans H0.out; have d1 := (hB.cell (p := ⟨b0, off + k * 6 + 1, none⟩) hbl).trans H1.out; have d2 := (hB.cell (p := ⟨b0, off + k * 6 + 2, none⟩) hbl).trans H2.out; have d3 := (hB.cell (p := ⟨b0, off + k * 6 + 3, none⟩) hbl).trans H3.out; have d4 := (hB.cell (p := ⟨b0, off + k * 6 + 4, none⟩) hbl).trans H4.out; have d5 := (hB.cell (p := ⟨b0, off + k * 6 + 5, none⟩) hbl).trans H5.out; have hXb : w3.heap.size ≠ b := by { have := hM.head.lt; omega }; have hXg : w3.heap.size ≠ g := by { have := hM.row.lt; omega }) | (go_at_call 9; with_reducible refine (bring_n P 12 p HP.out (by omega) (by omega) _).mono ?_; rintro e w0 ⟨rfl, hw0⟩; replace hw0 := hw0.symm; subst hw0) | (go_at_call 9; with_reducible refine (bring_n K 5 r HR.out (by omega) (by omega) _).mono ?_; rintro e w0 ⟨rfl, hw0⟩; replace hw0 := hw0.symm; subst hw0) | (go_at_call 14; with_reducible refine (cas2_z _ b g ws (cnt + 1) 12 (hM.alloc _) hn (by omega) (by omega) p a2 a3 a4 a5 _ _ _ _ rfl rfl rfl rfl _ _ _ _ rfl rfl rfl rfl).mono ?_; rintro e w4 ⟨rfl, hN, hT⟩; replace hB := hT.below (hB.alloc hB.size _) hb hg (Nat.le_trans hB.size (by simp)); have hK := (Blk.new w3 41 #[.int .i64 K, .int .i64 (p : Int), .int .u64 (a2 : Int), .int .u64 (a3 : Int), .int .u64 (a4 : Int), .int .u64 (a5 : Int)]).two hT hXb hXg; clear hT hM; have hM := hN; clear hN; have hkc := hK.cell; have hn2 := Lib.hid ((dwA_len ws p a2 a3 a4 a5).trans hn.out)) | (go_at_call 12; with_reducible refine (load_z _ b g _ _ 12 hM hn2 (by omega) (by omega) q _ 0 _ rfl ER.out rfl).mono ?_; rintro e w5 ⟨rfl, hN, hT⟩; replace hB := hT.below hB hb hg hB.size; replace hK := hK.two hT hXb hXg; clear hT hM hkc; have hM := hN; clear hN; have hkc := hK.cell))
            all_goals
              go_roundw
              case rel => exact ⟨k + 1, _, _, by omega, by omega, by go_num, by omega, hn2, hM, hB⟩
              case measure => simp [intOf]; omega
          · have t5 : ((p : Int) + 1 == (q : Int)) = false := by rw [beq_eq_false_iff_ne]; omega
            go_wp2_with (first | (go_at_call 12; with_reducible refine (load_z _ b g ws cnt 12 hM hn (by omega) (by omega) q x1 0 (cnt + 1) HX.out ER.out (CN.out cnt)).mono ?_; rintro e w3 ⟨rfl, hN, hT⟩; replace hB := hT.below hB hb hg hB.size; clear hT hM; have hM := hN; clear hN; have d0 := (hB.cell (p := ⟨b0, off + k * 6, none⟩) hbl).trans H0.out; have d1 := (hB.cell (p := ⟨b0, off + k * 6 + 1, none⟩) hbl).trans H1.out; have d2 := (hB.cell (p := ⟨b0, off + k * 6 + 2, none⟩) hbl).trans H2.out; have d3 := (hB.cell (p := ⟨b0, off + k * 6 + 3, none⟩) hbl).trans H3.out; have d4 := (hB.cell (p := ⟨b0, off + k * 6 + 4, none⟩) hbl).trans H4.out; have d5 := (hB.cell (p := ⟨b0, off + k * 6 + 5, none⟩) hbl).trans H5.out; have hXb : w3.heap.size ≠ b := by { have := hM.head.lt; omega }; have hXg : w3.heap.size ≠ g := by { have := hM.row.lt; omega }) | (go_at_call 9; with_reducible refine (bring_n P 12 p HP.out (by omega) (by omega) _).mono ?_; rintro e w0 ⟨rfl, hw0⟩; replace hw0 := hw0.symm; subst hw0) | (go_at_call 9; with_reducible refine (bring_n K 5 r HR.out (by omega) (by omega) _).mono ?_; rintro e w0 ⟨rfl, hw0⟩; replace hw0 := hw0.symm; subst hw0) | (go_at_call 14; with_reducible refine (cas2_z _ b g ws (cnt + 1) 12 (hM.alloc _) hn (by omega) (by omega) p a2 a3 a4 a5 _ _ _ _ rfl rfl rfl rfl _ _ _ _ rfl rfl rfl rfl).mono ?_; rintro e w4 ⟨rfl, hN, hT⟩; replace hB := hT.below (hB.alloc hB.size _) hb hg (Nat.le_trans hB.size (by simp)); have hK := (Blk.new w3 41 #[.int .i64 K, .int .i64 (p : Int), .int .u64 (a2 : Int), .int .u64 (a3 : Int), .int .u64 (a4 : Int), .int .u64 (a5 : Int)]).two hT hXb hXg; clear hT hM; have hM := hN; clear hN; have hkc := hK.cell; have hn2 := Lib.hid ((dwA_len ws p a2 a3 a4 a5).trans hn.out); have HS := Lib.hid ((congrArg (fun n : Nat => (n : Int)) (ld_cas2 (ws := ws) a2 a3 a4 a5 hpq hp1)).trans HX.out)) | (go_at_call 12; with_reducible refine (load_z _ b g _ _ 12 hM hn2 (by omega) (by omega) q x1 0 _ HS.out ER.out rfl).mono ?_; rintro e w5 ⟨rfl, hN, hT⟩; replace hB := hT.below hB hb hg hB.size; replace hK := hK.two hT hXb hXg; clear hT hM hkc; have hM := hN; clear hN; have hkc := hK.cell))
            all_goals
              go_roundw
              case rel => exact ⟨k + 1, _, _, by omega, by omega, by go_num, by omega, hn2, hM, hB⟩
              case measure => simp [intOf]; omega
        · have t2 : ((r : Int) == 3) = false := by rw [beq_eq_false_iff_ne]; omega
          clear hr3
          go_wp2_with (first | (go_at_call 12; with_reducible refine (load_z _ b g ws cnt 12 hM hn (by omega) (by omega) q x1 0 (cnt + 1) HX.out ER.out (CN.out cnt)).mono ?_; rintro e w3 ⟨rfl, hN, hT⟩; replace hB := hT.below hB hb hg hB.size; clear hT hM; have hM := hN; clear hN; have d0 := (hB.cell (p := ⟨b0, off + k * 6, none⟩) hbl).trans H0.out; have d1 := (hB.cell (p := ⟨b0, off + k * 6 + 1, none⟩) hbl).trans H1.out; have d2 := (hB.cell (p := ⟨b0, off + k * 6 + 2, none⟩) hbl).trans H2.out; have d3 := (hB.cell (p := ⟨b0, off + k * 6 + 3, none⟩) hbl).trans H3.out; have d4 := (hB.cell (p := ⟨b0, off + k * 6 + 4, none⟩) hbl).trans H4.out; have d5 := (hB.cell (p := ⟨b0, off + k * 6 + 5, none⟩) hbl).trans H5.out; have hXb : w3.heap.size ≠ b := by { have := hM.head.lt; omega }; have hXg : w3.heap.size ≠ g := by { have := hM.row.lt; omega }) | (go_at_call 9; with_reducible refine (bring_n P 12 p HP.out (by omega) (by omega) _).mono ?_; rintro e w0 ⟨rfl, hw0⟩; replace hw0 := hw0.symm; subst hw0) | (go_at_call 9; with_reducible refine (bring_n K 5 r HR.out (by omega) (by omega) _).mono ?_; rintro e w0 ⟨rfl, hw0⟩; replace hw0 := hw0.symm; subst hw0) | (go_at_call 13; with_reducible refine (store_z _ b g ws (cnt + 1) 12 (hM.alloc _) hn (by omega) (by omega) p a2 _ rfl _ _ _ rfl rfl rfl).mono ?_; rintro e w4 ⟨rfl, hN, hT⟩; replace hB := hT.below (hB.alloc hB.size _) hb hg (Nat.le_trans hB.size (by simp)); have hK := (Blk.new w3 41 #[.int .i64 K, .int .i64 (p : Int), .int .u64 (a2 : Int), .int .u64 (a3 : Int), .int .u64 (a4 : Int), .int .u64 (a5 : Int)]).two hT hXb hXg; clear hT hM; have hM := hN; clear hN; have hkc := hK.cell; have hn2 := Lib.hid ((stA_len ws p a2).trans hn.out); have HS := Lib.hid ((congrArg (fun n : Nat => (n : Int)) (ld_other (ws := ws) a2 hpq)).trans HX.out)) | (go_at_call 15; with_reducible refine (cas_z _ b g ws (cnt + 1) 12 (hM.alloc _) hn (by omega) (by omega) p a2 a3 _ _ rfl rfl _ _ _ _ rfl rfl rfl rfl).mono ?_; rintro e w4 ⟨rfl, hN, hT⟩; replace hB := hT.below (hB.alloc hB.size _) hb hg (Nat.le_trans hB.size (by simp)); have hK := (Blk.new w3 41 #[.int .i64 K, .int .i64 (p : Int), .int .u64 (a2 : Int), .int .u64 (a3 : Int), .int .u64 (a4 : Int), .int .u64 (a5 : Int)]).two hT hXb hXg; clear hT hM; have hM := hN; clear hN; have hkc := hK.cell; have hn2 := Lib.hid ((cwA_len ws p a2 a3).trans hn.out); have HS := Lib.hid ((congrArg (fun n : Nat => (n : Int)) (ld_cas (ws := ws) a2 a3 hpq)).trans HX.out)) | (go_at_call 11; with_reducible refine (add_z _ b g ws (cnt + 1) 12 (hM.alloc _) hn (by omega) (by omega) p a2 _ rfl _ _ _ _ rfl rfl rfl rfl).mono ?_; rintro e w4 ⟨rfl, hN, hT⟩; replace hB := hT.below (hB.alloc hB.size _) hb hg (Nat.le_trans hB.size (by simp)); have hK := (Blk.new w3 41 #[.int .i64 K, .int .i64 (p : Int), .int .u64 (a2 : Int), .int .u64 (a3 : Int), .int .u64 (a4 : Int), .int .u64 (a5 : Int)]).two hT hXb hXg; clear hT hM; have hM := hN; clear hN; have hkc := hK.cell; have hn2 := Lib.hid ((adA_len ws p a2).trans hn.out); have HS := Lib.hid ((congrArg (fun n : Nat => (n : Int)) (ld_add (ws := ws) a2 hpq)).trans HX.out)) | (go_at_call 12; with_reducible refine (load_z _ b g _ _ 12 hM hn2 (by omega) (by omega) q x1 0 _ HS.out ER.out rfl).mono ?_; rintro e w5 ⟨rfl, hN, hT⟩; replace hB := hT.below hB hb hg hB.size; replace hK := hK.two hT hXb hXg; clear hT hM hkc; have hM := hN; clear hN; have hkc := hK.cell) | (go_at_call 12; with_reducible refine (load_z _ b g ws (cnt + 1) 12 (hM.alloc _) hn (by omega) (by omega) q x1 0 _ HX.out ER.out rfl).mono ?_; rintro e w5 ⟨rfl, hN, hT⟩; replace hB := hT.below (hB.alloc hB.size _) hb hg (Nat.le_trans hB.size (by simp)); have hK := (Blk.new w3 41 #[.int .i64 K, .int .i64 (p : Int), .int .u64 (a2 : Int), .int .u64 (a3 : Int), .int .u64 (a4 : Int), .int .u64 (a5 : Int)]).two hT hXb hXg; clear hT hM; have hM := hN; clear hN; have hkc := hK.cell; have hn2 := hn))
          all_goals
            go_roundw
            case rel => exact ⟨k + 1, _, _, by omega, by omega, by go_num, by omega, hn2, hM, hB⟩
            case measure => simp [intOf]; omega
    · by_cases hkl : k < L
      all_goals
        go_wp2_with (first | (go_at_call 8; with_reducible refine (works_any _).mono ?_; rintro e w3 ⟨rfl, hb3⟩))
        go_ret
        exact ⟨rfl, by (repeat' (first | (with_reducible exact Below.refl _ _) | (with_reducible assumption) | (with_reducible refine Below.alloc ?_ ?_ _) | (with_reducible refine below_drewN ?_ _) | (with_reducible refine Below.drew ?_) | (with_reducible refine Below.setCell ?_ ?_ _) | (with_reducible refine below_two ?_ (by with_reducible assumption)) | go_size))⟩

end Go.Proofs.Ytfhbfjlbflkbhaa
