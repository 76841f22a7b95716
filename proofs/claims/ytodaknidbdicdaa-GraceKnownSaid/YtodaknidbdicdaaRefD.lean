/-
  The reference's Call, Poll, New.
-/
import Derived.Test.YtodaknidbdicdaaRefC
import Derived.Test.YtodaknidbdicdaaSWalkE
import Derived.WalkKit
import Derived.Deep.DeepMust
import Derived.WalkSpells
import Derived.WalkLawsBesides
import Derived.Handy
import Derived.Lib.Hide
import Derived.Deep.QuietTactic
import Derived.BigQuiet
namespace Go.Proofs.Ytodaknidbdicdaa
open Go.RowKit

section
variable {B r da ra na : Nat} {gs : List Nat} {G : Gr}
set_option maxHeartbeats 2000000 in
theorem rcall_ok (w : World) (h : RefIn w B r da ra na gs G) (hI : Inv G) (hE : G.E ≤ 1000000) (k : Nat) (hk : k < G.C) (i : Int) : Calls Try.prog 32 #[.pointer (some ⟨r, 0, none⟩), .int .i64 (k : Int), .int .i64 i] w fun e w' =>
    e = .returned (.int .i64 (callG G k i).2) ∧ RefIn w' B r da ra na gs (callG G k i).1 ∧ Rws [r, da, ra, na] w w' := by
  have HG := Lib.hid h
  have HI := Lib.hid hI
  have hz := Lib.hid (decide_eq_true (show 0 ≤ (k : Int) ∧ (k : Int) < G.C from ⟨by omega, by omega⟩))
  have d1 := h.c1
  have d3 := h.c3
  have d2 := h.c2
  obtain ⟨A, n, c, cR, hR⟩ := h.cR hk
  have HR := Lib.hid hR
  have h256 := (errC_zero.1 (hI.l k)).1
  have k0 : (0 : Int) ≤ (k : Int) := by omega
  have k1 : (k : Int) < (G.C : Int) := by omega
  have h2 := hI.c2
  have HK := Lib.hid hk
  obtain ⟨C, hC⟩ : ∃ C, G.C = C := ⟨_, rfl⟩
  have HC := Lib.hid hC
  rw [hC] at d1 k1 h2
  by_cases hi : i < 0 ∨ 9007199254740991 < i
  · rw [callG_bad hi]
    rcases (by omega : i < 0 ∨ (¬ i < 0 ∧ 9007199254740991 < i)) with h1 | ⟨h1, h2⟩
    all_goals
      clear h hI hk hi hR hC
      go_enter Try.func32, Try.ntmps32
      go_wp2_with (first | (go_at_call 44; (with_reducible refine (has_any _ HG.out HI.out k).mono ?_); rintro e wq ⟨rfl, hwq⟩; replace hwq := hwq.symm; subst hwq; rw [hz.out]))
      go_ret
      exact ⟨rfl, HG.out, Rws.refl _ _⟩
  · have i1 : ¬ i < 0 := fun e => hi (.inl e)
    have i2 : ¬ 9007199254740991 < i := fun e => hi (.inr e)
    by_cases h2' : (G.L k).length = 256
    · rw [callG_full hi h2']
      obtain rfl : n = 256 := hR.len.symm.trans h2'
      clear h hI hk hi h256 h2' hR hC
      go_enter Try.func32, Try.ntmps32
      go_wp2_with (first | (go_at_call 44; (with_reducible refine (has_any _ HG.out HI.out k).mono ?_); rintro e wq ⟨rfl, hwq⟩; replace hwq := hwq.symm; subst hwq; rw [hz.out]))
      go_ret
      exact ⟨rfl, HG.out, Rws.refl _ _⟩
    · obtain ⟨r', er, ha⟩ : ∃ r er, addF (G.L k) ⟨i, (calG G).2⟩ = (r, er) := ⟨_, _, rfl⟩
      have e0 := callG_put hi h2' (G1 := (calG G).1) (a := (calG G).2) rfl ha
      rw [e0]
      have hr0 := Lib.hid (fun h0 => addF_len ha h0)
      rw [hR.len] at h256 h2'
      have hn3 : ((n : Int) == 256) = false := beq_eq_false_iff_ne.2 (by omega)
      obtain ⟨E, hEE⟩ : ∃ E, G.E = E := ⟨_, rfl⟩
      have HEE := Lib.hid hEE
      cases hg : G.go
      · have hcal : calG G = (begG G, (E : Int) + 1) := by unfold calG; rw [hg, hEE]; rfl
        rw [hcal] at ha ⊢
        have HA := Lib.hid ha
        rw [hg] at d3
        rw [hEE] at d2 hE
        have w1k : IntKind.i64.wrap ((E : Int) + 1) = (E : Int) + 1 := IntWalk.i64_in _ (by omega)
        have w2k : IntKind.i64.wrap ((E : Int) + 2) = (E : Int) + 2 := IntWalk.i64_in _ (by omega)
        clear h hI hk hi e0 hcal hg hEE ha hR hC
        by_cases h0 : er = 0
        · subst h0
          rw [putG_ok]
          clear hr0
          go_enter Try.func32, Try.ntmps32
          go_wp2_with (first | (go_at_call 44; (with_reducible refine (has_any _ HG.out HI.out k).mono ?_); rintro e wq ⟨rfl, hwq⟩; replace hwq := hwq.symm; subst hwq; rw [hz.out]) | (go_at_call 47; refine (rbegin_any _ HG.out HI.out).mono ?_; rintro e w2 ⟨rfl, hN, hT⟩; have HN := Lib.hid hN; have HT := Lib.hid hT; have x1 := hN.c1; rw [show (begG G).C = C from HC.out] at x1; have x2 := hN.c2; rw [show (begG G).E = E from HEE.out] at x2; obtain ⟨A2, n2, c2, xR, hR2⟩ := hN.cR (k := k) HK.out; have HR2 := Lib.hid hR2; have hn2 := (HR.out.len.symm.trans hR2.len); subst hn2; clear hN hT hR2) | (go_at_call 48; refine (refAdd_any (G.L k) i ((E : Int) + 1) A2 _ c2 _ (Lib.hid HR2.out.len) (by omega) HR2.out.row r' 0 HA.out).mono ?_; rintro e w3 ⟨v, rfl, ho, hb3⟩; obtain ⟨A3, c3, rfl, hR3⟩ := HasRow.of_own ho HN.out.lts; have HN3 := Lib.hid (HN.out.below hb3); have y1 := HN3.out.c1; rw [show (begG G).C = C from HC.out] at y1; obtain ⟨A4, n4, c4, yR, -⟩ := HN3.out.cR (k := k) HK.out; have yF := HN3.out.fR k))
          go_ret
          exact ⟨rfl, HN3.out.setR HK.out hR3, (HT.out.trans (Rws.of_below _ hb3)).set (by simp) _ _⟩
        · rw [putG_no h0]
          have hne : (er == 0) = false := beq_eq_false_iff_ne.2 h0
          obtain rfl : r' = [] := hr0.out h0
          clear hr0 h0
          go_enter Try.func32, Try.ntmps32
          go_wp2_with (first | (go_at_call 44; (with_reducible refine (has_any _ HG.out HI.out k).mono ?_); rintro e wq ⟨rfl, hwq⟩; replace hwq := hwq.symm; subst hwq; rw [hz.out]) | (go_at_call 47; refine (rbegin_any _ HG.out HI.out).mono ?_; rintro e w2 ⟨rfl, hN, hT⟩; have HN := Lib.hid hN; have HT := Lib.hid hT; have x1 := hN.c1; rw [show (begG G).C = C from HC.out] at x1; have x2 := hN.c2; rw [show (begG G).E = E from HEE.out] at x2; obtain ⟨A2, n2, c2, xR, hR2⟩ := hN.cR (k := k) HK.out; have HR2 := Lib.hid hR2; have hn2 := (HR.out.len.symm.trans hR2.len); subst hn2; clear hN hT hR2) | (go_at_call 48; refine (refAdd_any (G.L k) i ((E : Int) + 1) A2 _ c2 _ (Lib.hid HR2.out.len) (by omega) HR2.out.row [] er HA.out).mono ?_; rintro e w3 ⟨v, rfl, ho, hb3⟩; have HN3 := Lib.hid (HN.out.below hb3)))
          go_ret
          exact ⟨rfl, HN3.out, HT.out.trans (Rws.of_below _ hb3)⟩
      · have hcal : calG G = (G, (E : Int) + 2) := by unfold calG; rw [hg, hEE]; rfl
        rw [hcal] at ha ⊢
        have HA := Lib.hid ha
        rw [hg] at d3
        rw [hEE] at d2 hE
        have w2k : IntKind.i64.wrap ((E : Int) + 2) = (E : Int) + 2 := IntWalk.i64_in _ (by omega)
        clear h hI hk hi e0 hcal hg hEE ha hR hC
        by_cases h0 : er = 0
        · subst h0
          rw [putG_ok]
          clear hr0
          go_enter Try.func32, Try.ntmps32
          go_wp2_with (first | (go_at_call 44; (with_reducible refine (has_any _ HG.out HI.out k).mono ?_); rintro e wq ⟨rfl, hwq⟩; replace hwq := hwq.symm; subst hwq; rw [hz.out]) | (go_at_call 48; refine (refAdd_any (G.L k) i ((E : Int) + 2) A _ c _ (Lib.hid HR.out.len) (by omega) HR.out.row r' 0 HA.out).mono ?_; rintro e w3 ⟨v, rfl, ho, hb3⟩; obtain ⟨A3, c3, rfl, hR3⟩ := HasRow.of_own ho HG.out.lts; have HN3 := Lib.hid (HG.out.below hb3); have y1 := HN3.out.c1; rw [HC.out] at y1; obtain ⟨A4, n4, c4, yR, -⟩ := HN3.out.cR (k := k) HK.out; have yF := HN3.out.fR k))
          go_ret
          exact ⟨rfl, HN3.out.setR HK.out hR3, (Rws.of_below _ hb3).set (by simp) _ _⟩
        · rw [putG_no h0]
          have hne : (er == 0) = false := beq_eq_false_iff_ne.2 h0
          obtain rfl : r' = [] := hr0.out h0
          clear hr0 h0
          go_enter Try.func32, Try.ntmps32
          go_wp2_with (first | (go_at_call 44; (with_reducible refine (has_any _ HG.out HI.out k).mono ?_); rintro e wq ⟨rfl, hwq⟩; replace hwq := hwq.symm; subst hwq; rw [hz.out]) | (go_at_call 48; refine (refAdd_any (G.L k) i ((E : Int) + 2) A _ c _ (Lib.hid HR.out.len) (by omega) HR.out.row [] er HA.out).mono ?_; rintro e w3 ⟨v, rfl, ho, hb3⟩; have HN3 := Lib.hid (HG.out.below hb3)))
          go_ret
          exact ⟨rfl, HN3.out, Rws.of_below _ hb3⟩

set_option maxHeartbeats 2000000 in
theorem rpoll_ok (w : World) (h : RefIn w B r da ra na gs G) (hI : Inv G) (k : Nat) (hk : k < G.C) : Calls Try.prog 33 #[.pointer (some ⟨r, 0, none⟩), .int .i64 (k : Int)] w fun e w' =>
    ∃ A c, e = .returned (.tuple #[.slice A (polled G k).length c, .int .i64 0]) ∧ w'.ownsRow w.heap.size 3 1 (.slice A (polled G k).length c) (polled G k).length (intsV (polled G k)) ∧ RefIn w' B r da ra na gs (pollG G k) ∧ Rws [r, da, ra, na] w w' := by
  have HG := Lib.hid h
  have HI := Lib.hid hI
  have hz := Lib.hid (decide_eq_true (show 0 ≤ (k : Int) ∧ (k : Int) < G.C from ⟨by omega, by omega⟩))
  have d1 := h.c1
  have d2 := h.c2
  obtain ⟨A, n, c, cR, hR⟩ := h.cR hk
  have HE := Lib.hid (hI.l k)
  have k0 : (0 : Int) ≤ (k : Int) := by omega
  have k1 : (k : Int) < (G.C : Int) := by omega
  have HK := Lib.hid hk
  obtain ⟨C, hC⟩ : ∃ C, G.C = C := ⟨_, rfl⟩
  have HC := Lib.hid hC
  rw [hC] at d1 k1
  have hl := h.blk.lt
  have hl3 := h.lt ra (by simp)
  have HP : Hid (polled G k = idsL ((G.L k).take (cutN G.E (G.L k)))) := Lib.hid rfl
  have HQ : Hid (pollG G k = { G with L := upd G.L k ((G.L k).drop (cutN G.E (G.L k))) }) := Lib.hid rfl
  obtain ⟨E, hEE⟩ : ∃ E, G.E = E := ⟨_, rfl⟩
  obtain ⟨K, hK⟩ : ∃ K, cutN E (G.L k) = K := ⟨_, rfl⟩
  rw [hEE] at d2 HP HQ
  rw [hK] at HP HQ
  have HEE := Lib.hid hEE
  have HKK := Lib.hid hK
  have HKL : Hid (K ≤ (G.L k).length) := Lib.hid (by rw [← hK]; exact cutN_le _ _)
  have HR := Lib.hid hR
  clear h hI hk hEE hK hR hC
  go_enter Try.func33, Try.ntmps33
  go_wp2_with (first | (go_at_call 44; (with_reducible refine (has_any _ HG.out HI.out k).mono ?_); rintro e wq ⟨rfl, hwq⟩; replace hwq := hwq.symm; subst hwq; rw [hz.out]))
  go_region_held3 (fun w' => w'.cell? ⟨r, 1, none⟩ = some (.slice (some ⟨ra, 0, none⟩) C C) ∧ w'.cell? ⟨r, 2, none⟩ = some (.int .i64 (E : Int)) ∧ w'.cell? ⟨ra, k, none⟩ = some (.slice A n c)) (exact ⟨by assumption, by assumption, by assumption⟩) (first | (go_at_call 49; refine (refReady_any (G.L k) E A n c _ (Lib.hid HR.out.len) HR.out.cap HR.out.row.drew HE.out K HKK.out).mono ?_; rintro e w3 ⟨v, A3, c3, rfl, ho, hrest, hc3, hb3⟩; have y1 := (hb3.cell (p := ⟨r, 1, none⟩) hl).trans d1; have y2 := (hb3.cell (p := ⟨r, 2, none⟩) hl).trans d2; have y3 := (hb3.cell (p := ⟨ra, k, none⟩) hl3).trans cR; have HN3 := Lib.hid (HG.out.drew.below hb3); have f3 := HN3.out.fR k; have HR3 := Lib.hid (HasRow.of_rest hrest HG.out.drew.lts (n := n - K) (by rw [List.length_drop, HR.out.len]) hc3); have HO := Lib.hid ho; have HT := Lib.hid ((Rws.refl [r, da, ra, na] w).drew.trans (Rws.of_below [r, da, ra, na] hb3))))
  all_goals go_wp2
  all_goals go_ret2
  have ho4 := RowKit.ownsRow_setCell_below HO.out (a := ⟨ra, k, none⟩) (show ra < w.drew.heap.size from hl3) (.slice A3 (n - K) c3)
  obtain ⟨A4, c4, rfl, -⟩ := Row.slice ho4
  have hlen : (polled G k).length = K := by
    rw [HP.out]
    unfold idsL
    rw [List.length_map, List.length_take]
    have := HKL.out
    omega
  refine ⟨A4, c4, by rw [hlen]; rfl, by rw [hlen, HP.out]; exact ho4, ?_, HT.out.set (by simp) _ _⟩
  have h5 := HN3.out.setR HK.out HR3.out
  rw [HQ.out, ← HEE.out]
  exact h5
end

end Go.Proofs.Ytodaknidbdicdaa
