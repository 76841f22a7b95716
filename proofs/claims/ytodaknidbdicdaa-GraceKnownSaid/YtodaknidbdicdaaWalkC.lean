/-
  The walks of Quiet, Call, Poll.
-/
import Derived.Test.YtodaknidbdicdaaWalkB
import Derived.Test.YtodaknidbdicdaaSWalkD
import Derived.Test.YtodaknidbdicdaaSWalkH
import Derived.Deep.RegionHeld3
import Derived.WalkKit
import Derived.Deep.DeepMust
import Derived.WalkSpells
import Derived.WalkLawsBesides
import Derived.Handy
import Derived.Lib.Hide
import Derived.Deep.QuietTactic
import Derived.BigQuiet
namespace Go.Proofs.Ytodaknidbdicdaa
open Go.RowKit

theorem neq8 (a0 a1 a2 a3 a4 a5 a6 a7 : Bool) (w : World) :
    (binOp .neq 55 (.agg #[.bool a0, .bool a1, .bool a2, .bool a3, .bool a4, .bool a5, .bool a6, .bool a7]) (.agg #[.bool false, .bool false, .bool false, .bool false, .bool false, .bool false, .bool false, .bool false])).run Try.prog w
      = .ok (.bool (a0 || a1 || a2 || a3 || a4 || a5 || a6 || a7)) w := by
  cases a0 <;> cases a1 <;> cases a2 <;> cases a3 <;> cases a4 <;> cases a5 <;> cases a6 <;> cases a7 <;> kernel_rfl
theorem any8 (f : Nat → Bool) : anyU f 8 = (f 0 || f 1 || f 2 || f 3 || f 4 || f 5 || f 6 || f 7) := by
  simp [anyU]
theorem needs8 {G : Gr} (hI : Inv G) : needsG G = anyU G.N 8 := by
  cases h : anyU G.N 8
  · exact anyU_none fun k hk => anyU_no h k (by have := hI.c2; omega)
  · cases h2 : needsG G
    · rw [anyU_none (f := G.N) (n := 8) (fun k _ => by
        rcases Nat.lt_or_ge k G.C with h1 | h1
        · exact anyU_no h2 k h1
        · exact hI.o k h1)] at h
      cases h
    · rfl
theorem needs_cells {w : World} {b : Nat} {gs : List Nat} {G : Gr} (h : GrAt w b gs G) : w.cell? ⟨b, 19, none⟩ = some (.bool (G.N 0)) ∧ w.cell? ⟨b, 20, none⟩ = some (.bool (G.N 1)) ∧ w.cell? ⟨b, 21, none⟩ = some (.bool (G.N 2)) ∧ w.cell? ⟨b, 22, none⟩ = some (.bool (G.N 3)) ∧
    w.cell? ⟨b, 23, none⟩ = some (.bool (G.N 4)) ∧ w.cell? ⟨b, 24, none⟩ = some (.bool (G.N 5)) ∧ w.cell? ⟨b, 25, none⟩ = some (.bool (G.N 6)) ∧ w.cell? ⟨b, 26, none⟩ = some (.bool (G.N 7)) :=
  ⟨h.needs (k := 0) (by omega), h.needs (k := 1) (by omega), h.needs (k := 2) (by omega), h.needs (k := 3) (by omega), h.needs (k := 4) (by omega), h.needs (k := 5) (by omega), h.needs (k := 6) (by omega), h.needs (k := 7) (by omega)⟩

section
variable {b : Nat} {gs : List Nat} {G : Gr}
theorem quiet_no (w : World) (h : GrAt w b gs G) (hI : Inv G) (x : Int) (hx : ¬ (0 ≤ x ∧ x < G.C)) : Calls Try.prog 17 #[.pointer (some ⟨b, 0, none⟩), .int .i64 x] w fun e w' => e = .returned (.int .i64 9) ∧ w' = w := by
  have HG := Lib.hid h
  have HI := Lib.hid hI
  have hz : Hid (askE G.C x = 9) := Lib.hid (askE_no hx)
  clear h hI hx
  go_enter Try.func17, Try.ntmps17
  go_wp2_with (first | (go_at_call 28; (with_reducible refine (asked_any _ b gs G HG.out HI.out x).mono ?_); rintro e wq ⟨rfl, hwq⟩; replace hwq := hwq.symm; subst hwq; rw [hz.out]))
  go_ret
  exact ⟨rfl, rfl⟩

theorem need_quiet (hI : Inv G) (k : Nat) (hg : G.go = false) : needG G k = G := by
  have h : upd G.N k false = G.N := by
    funext j
    by_cases e : j = k
    · subst e; rw [upd_same, hI.n hg j]
    · rw [upd_ne _ _ e]
  unfold needG
  rw [h]

set_option maxHeartbeats 2000000 in
theorem quiet_ok (w : World) (h : GrAt w b gs G) (hI : Inv G) (hE : G.E ≤ 1000000) (k : Nat) (hk : k < G.C) : Calls Try.prog 17 #[.pointer (some ⟨b, 0, none⟩), .int .i64 (k : Int)] w fun e w' =>
    e = .returned (.int .i64 (quietG G k).2) ∧ GrAt w' b gs (quietG G k).1 ∧ One b w w' := by
  have HG := Lib.hid h
  have HI := Lib.hid hI
  have hz : Hid (askE G.C k = 0) := Lib.hid (askE_yes ⟨by omega, by omega⟩)
  have hk8 : k < 8 := by have := hI.c2; omega
  have c1 := h.deep hk8
  have f1 := h.frz (19 + k)
  have cN := h.needs hk8
  obtain ⟨d1, d2⟩ := hI.d k
  have hl := h.lt
  have k0 : (0 : Int) ≤ (k : Int) := by omega
  have k1 : (k : Int) < 8 := by omega
  by_cases h8 : 0 < G.D k
  · have e0 : quietG G k = (G, 292) := by unfold quietG; rw [decide_eq_true h8]; rfl
    rw [e0]
    obtain ⟨d, hd⟩ : ∃ d, G.D k = d := ⟨_, rfl⟩
    rw [hd] at c1 h8
    clear h hI hk d1 d2 e0 hd
    go_enter Try.func17, Try.ntmps17
    go_wp2_with (first | (go_at_call 28; (with_reducible refine (asked_any _ b gs G HG.out HI.out k).mono ?_); rintro e wq ⟨rfl, hwq⟩; replace hwq := hwq.symm; subst hwq; rw [hz.out]))
    go_ret
    exact ⟨rfl, HG.out, One.refl _ _⟩
  · have hd : G.D k = 0 := by omega
    rw [hd] at c1
    obtain ⟨G1, hG1⟩ : ∃ G1, needG G k = G1 := ⟨_, rfl⟩
    have HS := Lib.hid (h.setNeed hk8 false)
    have hS1 : GrAt (w.setCell ⟨b, 19 + k, none⟩ (.bool false)) b gs G1 := by rw [← hG1]; exact HS.out
    have HS1 := Lib.hid hS1
    have hI1 : Inv G1 := by rw [← hG1]; exact hI.need
    have hgo : G1.go = G.go := by rw [← hG1]; rfl
    have hE1 : G1.E = G.E := by rw [← hG1]; rfl
    have HT := Lib.hid ((One.refl b w).set (19 + k) (.bool false))
    have c2 := hS1.going
    obtain ⟨p0, p1, p2, p3, p4, p5, p6, p7⟩ := needs_cells hS1
    have q2 := neq8
    have HN := Lib.hid (needs8 hI1)
    have HA8 := Lib.hid (any8 G1.N)
    rw [hgo] at c2
    cases hg : G.go
    · have e0 : quietG G k = (G1, 0) := by
        unfold quietG; rw [decide_eq_false h8, hg, ← hG1, need_quiet hI k hg]; rfl
      rw [e0]
      rw [hg] at c2
      clear h hI hk d1 d2 e0 hd h8 hg hG1 HS hS1 hI1 hgo HN HA8 q2 p0 p1 p2 p3 p4 p5 p6 p7
      go_enter Try.func17, Try.ntmps17
      go_wp2_with (first | (go_at_call 28; (with_reducible refine (asked_any _ b gs G HG.out HI.out k).mono ?_); rintro e wq ⟨rfl, hwq⟩; replace hwq := hwq.symm; subst hwq; rw [hz.out]))
      go_ret
      exact ⟨rfl, HS1.out, HT.out⟩
    · rw [hg] at c2
      cases hn : needsG G1
      · have HAll : Hid (∀ j, j < 8 → G1.N j = false) := Lib.hid (anyU_no (by rw [← HN.out, hn]))
        rw [HAll.out 0 (by omega)] at p0
        rw [HAll.out 1 (by omega)] at p1
        rw [HAll.out 2 (by omega)] at p2
        rw [HAll.out 3 (by omega)] at p3
        rw [HAll.out 4 (by omega)] at p4
        rw [HAll.out 5 (by omega)] at p5
        rw [HAll.out 6 (by omega)] at p6
        rw [HAll.out 7 (by omega)] at p7
        have HX := Lib.hid ((hS1.setGoing false).setEnded (G1.E + 1))
        have HX1 := Lib.hid (show GrAt _ b gs (endG G1) from HX.out)
        have cE := hS1.ended
        have f17 := hS1.frz 17
        have f18 := hS1.frz 18
        have cE' : ((w.setCell ⟨b, 19 + k, none⟩ (.bool false)).setCell ⟨b, 18, none⟩ (.bool false)).cell? ⟨b, 17, none⟩ = some (.int .i64 (G1.E : Int)) := (hS1.setGoing false).ended
        have f17' : ((w.setCell ⟨b, 19 + k, none⟩ (.bool false)).setCell ⟨b, 18, none⟩ (.bool false)).frozen? ⟨b, 17, none⟩ = false := (hS1.setGoing false).frz 17
        have HI2 := Lib.hid (hI1.end_ hn)
        have HT2 := Lib.hid (((HT.out.set 18 (.bool false)).set 17 (.int .i64 ((G1.E + 1 : Nat) : Int))))
        rw [← hE1] at hE
        obtain ⟨E, hEE⟩ : ∃ E, G1.E = E := ⟨_, rfl⟩
        rw [hEE] at cE cE' hE HX1 HT2
        have w3k : IntKind.i64.wrap ((E : Int) + 1) = (E : Int) + 1 := IntWalk.i64_in _ (by omega)
        rw [show ((E + 1 : Nat) : Int) = (E : Int) + 1 by omega] at HX1 HT2
        obtain ⟨r, hr⟩ : ∃ r, laterG (endG G1) = r := ⟨_, rfl⟩
        have HR := Lib.hid hr
        have e0 : quietG G k = (bif r then begG (endG G1) else endG G1, 0) := by
          unfold quietG; rw [decide_eq_false h8, hg, hG1, hn, hr]; cases r <;> rfl
        rw [e0]
        clear h hI hk d1 d2 e0 hd h8 hg hG1 HS hS1 hI1 hgo HN HA8 hn HX hr hE1 hEE
        cases r
        all_goals
          go_enter Try.func17, Try.ntmps17
          go_wp2_with (first | (go_at_call 28; (with_reducible refine (asked_any _ b gs G HG.out HI.out k).mono ?_); rintro e wq ⟨rfl, hwq⟩; replace hwq := hwq.symm; subst hwq; rw [hz.out]) | (go_at_call 41; refine (waits_any _ HX1.out HI2.out).mono ?_; rintro e w1 ⟨rfl, hb1⟩; rw [HR.out]; have HX3 := Lib.hid (HX1.out.below hb1); have HT3 := Lib.hid (HT2.out.trans (One.of_below b hb1))) | (go_at_call 42; refine (begin_any _ HX3.out HI2.out).mono ?_; rintro e w2 ⟨rfl, hN, hT4⟩))
          go_ret
          first | exact ⟨rfl, HX3.out, HT3.out⟩ | exact ⟨rfl, hN, HT3.out.trans hT4⟩
      · have e0 : quietG G k = (G1, 0) := by
          unfold quietG; rw [decide_eq_false h8, hg, hG1, hn]; rfl
        rw [e0]
        have hor := HA8.out
        rw [← HN.out, hn] at hor
        obtain ⟨a0, h0⟩ : ∃ a, G1.N 0 = a := ⟨_, rfl⟩
        obtain ⟨a1, h1⟩ : ∃ a, G1.N 1 = a := ⟨_, rfl⟩
        obtain ⟨a2, h2⟩ : ∃ a, G1.N 2 = a := ⟨_, rfl⟩
        obtain ⟨a3, h3⟩ : ∃ a, G1.N 3 = a := ⟨_, rfl⟩
        obtain ⟨a4, h4⟩ : ∃ a, G1.N 4 = a := ⟨_, rfl⟩
        obtain ⟨a5, h5⟩ : ∃ a, G1.N 5 = a := ⟨_, rfl⟩
        obtain ⟨a6, h6⟩ : ∃ a, G1.N 6 = a := ⟨_, rfl⟩
        obtain ⟨a7, h7⟩ : ∃ a, G1.N 7 = a := ⟨_, rfl⟩
        rw [h0, h1, h2, h3, h4, h5, h6, h7] at hor
        rw [h0] at p0
        rw [h1] at p1
        rw [h2] at p2
        rw [h3] at p3
        rw [h4] at p4
        rw [h5] at p5
        rw [h6] at p6
        rw [h7] at p7
        have q3 : ∀ w, (binOp .neq 55 (.agg #[.bool a0, .bool a1, .bool a2, .bool a3, .bool a4, .bool a5, .bool a6, .bool a7]) (.agg #[.bool false, .bool false, .bool false, .bool false, .bool false, .bool false, .bool false, .bool false])).run Try.prog w = .ok (.bool true) w := fun w => by
          rw [neq8, ← hor]
        clear h hI hk d1 d2 e0 hd h8 hg hG1 HS hS1 hI1 hgo HN HA8 hn hE1 q2 hor h0 h1 h2 h3 h4 h5 h6 h7
        go_enter Try.func17, Try.ntmps17
        go_wp2_with (first | (go_at_call 28; (with_reducible refine (asked_any _ b gs G HG.out HI.out k).mono ?_); rintro e wq ⟨rfl, hwq⟩; replace hwq := hwq.symm; subst hwq; rw [hz.out]))
        go_ret
        exact ⟨rfl, HS1.out, HT.out⟩
end

end Go.Proofs.Ytodaknidbdicdaa
