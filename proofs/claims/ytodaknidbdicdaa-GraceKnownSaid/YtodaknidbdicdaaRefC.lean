/-
  The reference's begin, waited, later, Quiet.
-/
import Derived.Test.YtodaknidbdicdaaRefB
import Derived.WalkKit
import Derived.Deep.DeepMust
import Derived.WalkSpells
import Derived.WalkLawsBesides
import Derived.Handy
import Derived.Lib.Hide
import Derived.Deep.QuietTactic
import Derived.BigQuiet
namespace Go.Proofs.Ytodaknidbdicdaa
open Go.RowKit

section
variable {B r da ra na : Nat} {gs : List Nat} {G : Gr}
theorem begN_C (G : Gr) (j : Nat) : (begN G j).C = G.C := rfl
theorem rbegin_any (w : World) (h : RefIn w B r da ra na gs G) (hI : Inv G) : Calls Try.prog 47 #[.pointer (some ⟨r, 0, none⟩)] w fun e w' =>
    e = .returned (.tuple #[]) ∧ RefIn w' B r da ra na gs (begG G) ∧ Rws [r, da, ra, na] w w' := by
  have f0 := h.blk.frozen 3
  have c3 := h.c3
  have HS := Lib.hid (h.setGo true)
  have HE : Hid (begG G = begN G G.C) := Lib.hid rfl
  rw [begN_zero] at HS
  obtain ⟨C, hC⟩ : ∃ C, G.C = C := ⟨_, rfl⟩
  have h2 := hI.c2
  rw [hC] at h2 HE
  have HC := Lib.hid hC
  clear h hI hC
  go_enter Try.func47, Try.ntmps47
  go_wp2
  go_loopw [2] (fun q wr => ∃ j : Nat, j ≤ C ∧ q = .int .i64 j ∧ Hid (RefIn wr B r da ra na gs (begN G j)) ∧ Rws [r, da, ra, na] w wr) (fun q _ => C - (intOf q).toNat)
  case atStart => exact ⟨0, by omega, rfl, HS, (Rws.refl _ _).set (by simp) _ _⟩
  case round =>
    obtain ⟨j, hj, rfl, HJ, hT⟩ := hrel
    have c4 := HJ.out.c4
    rw [begN_C, HC.out] at c4
    by_cases hlt : j < C
    · have cN := HJ.out.cN (k := j) (by rw [begN_C, HC.out]; exact hlt)
      have fN := HJ.out.need.frz j
      have j0 : (0 : Int) ≤ (j : Int) := by omega
      have j1 : (j : Int) < (C : Int) := by omega
      have HN := Lib.hid (HJ.out.setN j true)
      rw [begN_next] at HN
      go_wp2
      go_roundw
      case rel => exact ⟨j + 1, by omega, by go_num, HN, hT.set (by simp) _ _⟩
      case measure => simp [intOf]; omega
    · obtain rfl : j = C := by omega
      go_wp2
      go_end0
      exact ⟨rfl, by rw [HE.out]; exact HJ.out, hT⟩

theorem rwaited_any (w : World) (h : RefIn w B r da ra na gs G) (hI : Inv G) : Calls Try.prog 45 #[.pointer (some ⟨r, 0, none⟩)] w fun e w' =>
    e = .returned (.bool (needsG G)) ∧ w' = w := by
  have HG := Lib.hid h
  have c4 := h.c4
  have h2 := hI.c2
  have HE : Hid (needsG G = anyU G.N G.C) := Lib.hid rfl
  obtain ⟨C, hC⟩ : ∃ C, G.C = C := ⟨_, rfl⟩
  rw [hC] at c4 h2 HE
  have HC := Lib.hid hC
  clear h hI hC
  go_enter Try.func45, Try.ntmps45
  go_wp2
  go_loopw [3] (fun q wr => ∃ j : Nat, j ≤ C ∧ q = .int .i64 j ∧ Hid (anyU G.N j = false) ∧ wr = w) (fun q _ => C - (intOf q).toNat)
  case atStart => exact ⟨0, by omega, rfl, Lib.hid rfl, rfl⟩
  case round =>
    obtain ⟨j, hj, rfl, HJ, rfl⟩ := hrel
    have j0 : (0 : Int) ≤ (j : Int) := by omega
    by_cases hlt : j < C
    · have j1 : (j : Int) < (C : Int) := by omega
      have cN := HG.out.cN (k := j) (by rw [HC.out]; exact hlt)
      cases hn : G.N j
      · rw [hn] at cN
        have HN : Hid (anyU G.N (j + 1) = false) := Lib.hid (by unfold anyU; rw [HJ.out, hn]; rfl)
        clear hn
        go_wp2
        go_roundw
        case rel => exact ⟨j + 1, by omega, by go_num, HN, trivial⟩
        case measure => simp [intOf]; omega
      · rw [hn] at cN
        have HY : Hid (anyU G.N C = true) := Lib.hid (anyU_yes hlt hn)
        clear hn
        go_wp2
        go_ret
        exact ⟨by rw [HE.out, HY.out]; rfl, rfl⟩
    · obtain rfl : j = C := by omega
      go_wp2
      go_ret
      exact ⟨by rw [HE.out, HJ.out]; rfl, rfl⟩

set_option maxHeartbeats 1000000 in
theorem rlater_any (w : World) (h : RefIn w B r da ra na gs G) (hI : Inv G) : Calls Try.prog 46 #[.pointer (some ⟨r, 0, none⟩)] w fun e w' =>
    e = .returned (.bool (laterG G)) ∧ Below w.heap.size w w' := by
  have HG := Lib.hid h
  have HI := Lib.hid hI
  have d1 := h.c1
  have d2 := h.c2
  have hl := h.blk.lt
  have hl2 := h.lt ra (by simp)
  have h2 := hI.c2
  have HE : Hid (laterG G = anyU (fun k => lastB G.E (G.L k)) G.C) := Lib.hid rfl
  obtain ⟨C, hC⟩ : ∃ C, G.C = C := ⟨_, rfl⟩
  rw [hC] at d1 h2 HE
  have HC := Lib.hid hC
  obtain ⟨E, hE⟩ : ∃ E, G.E = E := ⟨_, rfl⟩
  rw [hE] at d2 HE
  clear h hI hC hE
  go_enter Try.func46, Try.ntmps46
  go_wp2
  go_loopw [3] (fun q wr => ∃ j : Nat, j ≤ C ∧ q = .int .i64 j ∧ Hid (anyU (fun k => lastB E (G.L k)) j = false) ∧ Below w.heap.size w wr) (fun q _ => C - (intOf q).toNat)
  case atStart => exact ⟨0, by omega, rfl, Lib.hid rfl, Below.refl _ _⟩
  case round =>
    obtain ⟨j, hj, rfl, HJ, hb⟩ := hrel
    have j0 : (0 : Int) ≤ (j : Int) := by omega
    have e1 := (hb.cell (p := ⟨r, 1, none⟩) hl).trans d1
    have e2 := (hb.cell (p := ⟨r, 2, none⟩) hl).trans d2
    have hz := hb.size
    have hl1 : r < wr.heap.size := Nat.lt_of_lt_of_le hl hz
    have hl3 : ra < wr.heap.size := Nat.lt_of_lt_of_le hl2 hz
    by_cases hlt : j < C
    · have j1 : (j : Int) < (C : Int) := by omega
      obtain ⟨A, n, c, e3, hR⟩ := (HG.out.below hb).cR (k := j) (by rw [HC.out]; exact hlt)
      rcases Nat.eq_zero_or_pos n with h0 | h0
      · subst h0
        have HN : Hid (anyU (fun k => lastB E (G.L k)) (j + 1) = false) := Lib.hid (by
          unfold anyU
          rw [HJ.out, List.eq_nil_of_length_eq_zero hR.len]; rfl)
        clear hR
        go_wp2
        (refine wp_region_ext (wr.heap.size) (by kernel_rfl) (by kernel_rfl) (by go_size) (fun hxc hxf hxh hxn => ?_); (repeat (first | go_big_quiet_step (fail) | quiet_step (fail))); refine wpQuiet_nil ?_; intro w1 hs1; clear hxc hxf hxh hxn; obtain ⟨hb1, hz1, hc1, hf1⟩ := ext_known hs1 (wr.heap.size) (by go_size); clear hs1)
        go_wp2
        go_roundw
        case rel => exact ⟨j + 1, by omega, by go_num, HN, hb.trans (hb1.mono hz)⟩
        case measure => simp [intOf]; omega
      · obtain ⟨m, rfl⟩ : ∃ m, n = m + 1 := ⟨n - 1, by omega⟩
        obtain ⟨g, off, rfl, hgl, hcells⟩ := hR.row (by rw [rowV_len, hR.len]; omega)
        have hml : m < (G.L j).length := by rw [hR.len]; omega
        have cA := (wrow_cells hcells hml).2
        have HL := Lib.hid (lastB_at (E := E) hR.len)
        obtain ⟨a, ha⟩ : ∃ a, (G.L j)[m].at_ = a := ⟨_, rfl⟩
        rw [ha] at cA HL
        have m0 : (0 : Int) ≤ (m : Int) := by omega
        have hm256 := (errC_zero.1 (HI.out.l j)).1
        rw [hR.len] at hm256
        have hc := hR.cap
        have m1 : ((m + 1 : Nat) : Int) - 1 = (m : Int) := by omega
        have m2 : (m : Int) + 1 - 1 = (m : Int) := by omega
        have m3 : (0 : Int) < (m : Int) + 1 := by omega
        clear hR hcells hml ha
        by_cases ht : (E : Int) < a
        · have HY : Hid (anyU (fun k => lastB E (G.L k)) C = true) := Lib.hid (anyU_yes (k := j) hlt (by rw [HL.out]; exact decide_eq_true ht))
          go_wp2
          (refine wp_region_ext (wr.heap.size) (by kernel_rfl) (by kernel_rfl) (by go_size) (fun hxc hxf hxh hxn => ?_); (repeat (first | go_big_quiet_step (fail) | quiet_step (fail))); refine wpQuiet_nil ?_; intro w1 hs1; clear hxc hxf hxh hxn; obtain ⟨hb1, hz1, hc1, hf1⟩ := ext_known hs1 (wr.heap.size) (by go_size); clear hs1)
          go_wp2
          go_ret
          exact ⟨by rw [HE.out, HY.out]; rfl, hb.trans (hb1.mono hz)⟩
        · have HN : Hid (anyU (fun k => lastB E (G.L k)) (j + 1) = false) := Lib.hid (by
            unfold anyU
            rw [HJ.out, HL.out, decide_eq_false ht]; rfl)
          go_wp2
          (refine wp_region_ext (wr.heap.size) (by kernel_rfl) (by kernel_rfl) (by go_size) (fun hxc hxf hxh hxn => ?_); (repeat (first | go_big_quiet_step (fail) | quiet_step (fail))); refine wpQuiet_nil ?_; intro w1 hs1; clear hxc hxf hxh hxn; obtain ⟨hb1, hz1, hc1, hf1⟩ := ext_known hs1 (wr.heap.size) (by go_size); clear hs1)
          go_wp2
          go_roundw
          case rel => exact ⟨j + 1, by omega, by go_num, HN, hb.trans (hb1.mono hz)⟩
          case measure => simp [intOf]; omega
    · obtain rfl : j = C := by omega
      go_wp2
      go_ret
      exact ⟨by rw [HE.out, HJ.out]; rfl, hb⟩

set_option maxHeartbeats 2000000 in
theorem rquiet_ok (w : World) (h : RefIn w B r da ra na gs G) (hI : Inv G) (hE : G.E ≤ 1000000) (k : Nat) (hk : k < G.C) : Calls Try.prog 31 #[.pointer (some ⟨r, 0, none⟩), .int .i64 (k : Int)] w fun e w' =>
    e = .returned (.int .i64 (quietG G k).2) ∧ RefIn w' B r da ra na gs (quietG G k).1 ∧ Rws [r, da, ra, na] w w' := by
  have HG := Lib.hid h
  have HI := Lib.hid hI
  have hz := Lib.hid (decide_eq_true (show 0 ≤ (k : Int) ∧ (k : Int) < G.C from ⟨by omega, by omega⟩))
  have d0 := h.c0
  have d3 := h.c3
  have d4 := h.c4
  have c1 := h.cD hk
  have cN := h.cN hk
  have fN := h.need.frz k
  obtain ⟨d1, d2⟩ := hI.d k
  have k0 : (0 : Int) ≤ (k : Int) := by omega
  have k1 : (k : Int) < (G.C : Int) := by omega
  have h2 := hI.c2
  obtain ⟨C, hC⟩ : ∃ C, G.C = C := ⟨_, rfl⟩
  rw [hC] at d0 d4 k1 h2
  by_cases h8 : 0 < G.D k
  · have e0 : quietG G k = (G, 292) := by unfold quietG; rw [decide_eq_true h8]; rfl
    rw [e0]
    obtain ⟨d, hd⟩ : ∃ d, G.D k = d := ⟨_, rfl⟩
    rw [hd] at c1 h8
    clear h hI hk d1 d2 e0 hd hC
    go_enter Try.func31, Try.ntmps31
    go_wp2_with (first | (go_at_call 44; (with_reducible refine (has_any _ HG.out HI.out k).mono ?_); rintro e wq ⟨rfl, hwq⟩; replace hwq := hwq.symm; subst hwq; rw [hz.out]))
    go_ret
    exact ⟨rfl, HG.out, Rws.refl _ _⟩
  · have hd : G.D k = 0 := by omega
    rw [hd] at c1
    cases hg : G.go
    · have e0 : quietG G k = (G, 0) := by
        unfold quietG; rw [decide_eq_false h8, hg]; rfl
      rw [e0]
      rw [hg] at d3
      clear h hI hk d1 d2 e0 hd h8 hg hC
      go_enter Try.func31, Try.ntmps31
      go_wp2_with (first | (go_at_call 44; (with_reducible refine (has_any _ HG.out HI.out k).mono ?_); rintro e wq ⟨rfl, hwq⟩; replace hwq := hwq.symm; subst hwq; rw [hz.out]))
      go_ret
      exact ⟨rfl, HG.out, Rws.refl _ _⟩
    · rw [hg] at d3
      obtain ⟨G1, hG1⟩ : ∃ G1, needG G k = G1 := ⟨_, rfl⟩
      have HS := Lib.hid (h.setN k false)
      have hS1 : RefIn (w.setCell ⟨na, k, none⟩ (.bool false)) B r da ra na gs G1 := by rw [← hG1]; exact HS.out
      have HS1 := Lib.hid hS1
      have hI1 : Inv G1 := by rw [← hG1]; exact hI.need
      have HI1 := Lib.hid hI1
      have hE1 : G1.E = G.E := by rw [← hG1]; rfl
      have HT := Lib.hid ((Rws.refl [r, da, ra, na] w).set (g := na) (by simp) k (.bool false))
      have ne3 := h.ne3
      obtain ⟨nn, hn⟩ : ∃ nn, needsG G1 = nn := ⟨_, rfl⟩
      have HNN := Lib.hid hn
      cases nn
      · have HX := Lib.hid ((hS1.setGo false).setE (G1.E + 1))
        have HX1 := Lib.hid (show RefIn _ B r da ra na gs (endG G1) from HX.out)
        have c3' := hS1.c3
        have f3' := hS1.blk.frozen 3
        have cE' : ((w.setCell ⟨na, k, none⟩ (.bool false)).setCell ⟨r, 3, none⟩ (.bool false)).cell? ⟨r, 2, none⟩ = some (.int .i64 (G1.E : Int)) := (hS1.setGo false).c2
        have f17' : ((w.setCell ⟨na, k, none⟩ (.bool false)).setCell ⟨r, 3, none⟩ (.bool false)).frozen? ⟨r, 2, none⟩ = false := (hS1.setGo false).blk.frozen 2
        have HI2 := Lib.hid (hI1.end_ hn)
        have HT2 := Lib.hid (((HT.out.set (g := r) (by simp) 3 (.bool false)).set (g := r) (by simp) 2 (.int .i64 ((G1.E + 1 : Nat) : Int))))
        rw [← hE1] at hE
        obtain ⟨E, hEE⟩ : ∃ E, G1.E = E := ⟨_, rfl⟩
        rw [hEE] at cE' hE HX1 HT2
        have w3k : IntKind.i64.wrap ((E : Int) + 1) = (E : Int) + 1 := IntWalk.i64_in _ (by omega)
        rw [show ((E + 1 : Nat) : Int) = (E : Int) + 1 by omega] at HX1 HT2
        obtain ⟨r', hr⟩ : ∃ r, laterG (endG G1) = r := ⟨_, rfl⟩
        have HR := Lib.hid hr
        have e0 : quietG G k = (bif r' then begG (endG G1) else endG G1, 0) := by
          unfold quietG; rw [decide_eq_false h8, hg, hG1, hn, hr]; cases r' <;> rfl
        rw [e0]
        clear h hI hk d1 d2 e0 hd h8 hg hG1 HS hS1 hI1 hn HX hr hE1 hEE hC
        cases r'
        all_goals
          go_enter Try.func31, Try.ntmps31
          go_wp2_with (first | (go_at_call 44; (with_reducible refine (has_any _ HG.out HI.out k).mono ?_); rintro e wq ⟨rfl, hwq⟩; replace hwq := hwq.symm; subst hwq; rw [hz.out]) | (go_at_call 45; (with_reducible refine (rwaited_any _ HS1.out HI1.out).mono ?_); rintro e wq ⟨rfl, hwq⟩; replace hwq := hwq.symm; subst hwq; rw [HNN.out]) | (go_at_call 46; refine (rlater_any _ HX1.out HI2.out).mono ?_; rintro e w1 ⟨rfl, hb1⟩; rw [HR.out]; have HX3 := Lib.hid (HX1.out.below hb1); have HT3 := Lib.hid (HT2.out.trans (Rws.of_below _ hb1))) | (go_at_call 47; refine (rbegin_any _ HX3.out HI2.out).mono ?_; rintro e w2 ⟨rfl, hN, hT4⟩))
          go_ret
          first | exact ⟨rfl, HX3.out, HT3.out⟩ | exact ⟨rfl, hN, HT3.out.trans hT4⟩
      · have e0 : quietG G k = (G1, 0) := by
          unfold quietG; rw [decide_eq_false h8, hg, hG1, hn]; rfl
        rw [e0]
        clear h hI hk d1 d2 e0 hd h8 hg hG1 HS hS1 hI1 hn hE1 hC
        go_enter Try.func31, Try.ntmps31
        go_wp2_with (first | (go_at_call 44; (with_reducible refine (has_any _ HG.out HI.out k).mono ?_); rintro e wq ⟨rfl, hwq⟩; replace hwq := hwq.symm; subst hwq; rw [hz.out]) | (go_at_call 45; (with_reducible refine (rwaited_any _ HS1.out HI1.out).mono ?_); rintro e wq ⟨rfl, hwq⟩; replace hwq := hwq.symm; subst hwq; rw [HNN.out]))
        go_ret
        exact ⟨rfl, HS1.out, HT.out⟩
end

end Go.Proofs.Ytodaknidbdicdaa
