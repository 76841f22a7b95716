/-
  The walks of Lock, Unlock, begin, waits.
-/
import Derived.Test.YtodaknidbdicdaaWalkA
import Derived.RegionTactic
import Derived.WalkKit
import Derived.Deep.DeepMust
import Derived.WalkSpells
import Derived.WalkLawsBesides
import Derived.Handy
import Derived.Lib.Hide
import Derived.Deep.QuietTactic
import Derived.BigQuiet
namespace Go.Proofs.Ytodaknidbdicdaa
open Go.RowKit

section
variable {b : Nat} {gs : List Nat} {G : Gr}
theorem lock_no (w : World) (h : GrAt w b gs G) (hI : Inv G) (x : Int) (hx : ¬ (0 ≤ x ∧ x < G.C)) : Calls Try.prog 15 #[.pointer (some ⟨b, 0, none⟩), .int .i64 x] w fun e w' => e = .returned (.int .i64 9) ∧ w' = w := by
  have HG := Lib.hid h
  have HI := Lib.hid hI
  have hz : Hid (askE G.C x = 9) := Lib.hid (askE_no hx)
  clear h hI hx
  go_enter Try.func15, Try.ntmps15
  go_wp2_with (first | (go_at_call 28; (with_reducible refine (asked_any _ b gs G HG.out HI.out x).mono ?_); rintro e wq ⟨rfl, hwq⟩; replace hwq := hwq.symm; subst hwq; rw [hz.out]))
  go_ret
  exact ⟨rfl, rfl⟩
theorem unlock_no (w : World) (h : GrAt w b gs G) (hI : Inv G) (x : Int) (hx : ¬ (0 ≤ x ∧ x < G.C)) : Calls Try.prog 16 #[.pointer (some ⟨b, 0, none⟩), .int .i64 x] w fun e w' => e = .returned (.int .i64 9) ∧ w' = w := by
  have HG := Lib.hid h
  have HI := Lib.hid hI
  have hz : Hid (askE G.C x = 9) := Lib.hid (askE_no hx)
  clear h hI hx
  go_enter Try.func16, Try.ntmps16
  go_wp2_with (first | (go_at_call 28; (with_reducible refine (asked_any _ b gs G HG.out HI.out x).mono ?_); rintro e wq ⟨rfl, hwq⟩; replace hwq := hwq.symm; subst hwq; rw [hz.out]))
  go_ret
  exact ⟨rfl, rfl⟩

set_option maxHeartbeats 1000000 in
theorem lock_ok (w : World) (h : GrAt w b gs G) (hI : Inv G) (k : Nat) (hk : k < G.C) : Calls Try.prog 15 #[.pointer (some ⟨b, 0, none⟩), .int .i64 (k : Int)] w fun e w' =>
    e = .returned (.int .i64 (lockG G k).2) ∧ GrAt w' b gs (lockG G k).1 ∧ One b w w' := by
  have HG := Lib.hid h
  have HI := Lib.hid hI
  have hz : Hid (askE G.C k = 0) := Lib.hid (askE_yes ⟨by omega, by omega⟩)
  have hk8 : k < 8 := by have := hI.c2; omega
  have c1 := h.deep hk8
  have f1 := h.frz (1 + k)
  obtain ⟨d1, d2⟩ := hI.d k
  have hl := h.lt
  have k0 : (0 : Int) ≤ (k : Int) := by omega
  have k1 : (k : Int) < 8 := by omega
  by_cases h8 : G.D k = 8
  · have e0 : lockG G k = (G, 5) := by unfold lockG; rw [decide_eq_true h8]; rfl
    rw [e0]
    rw [h8] at c1
    clear h hI hk d1 d2 h8 e0
    go_enter Try.func15, Try.ntmps15
    go_wp2_with (first | (go_at_call 28; (with_reducible refine (asked_any _ b gs G HG.out HI.out k).mono ?_); rintro e wq ⟨rfl, hwq⟩; replace hwq := hwq.symm; subst hwq; rw [hz.out]))
    go_ret
    exact ⟨rfl, HG.out, One.refl _ _⟩
  · have e0 : lockG G k = ({ G with D := upd G.D k (G.D k + 1) }, 0) := by unfold lockG; rw [decide_eq_false h8]; rfl
    rw [e0]
    have HS := Lib.hid ((h.drewN 2).setDeep hk8 (G.D k + 1))
    obtain ⟨d, hd⟩ : ∃ d, G.D k = d := ⟨_, rfl⟩
    have HD := Lib.hid hd
    rw [hd] at c1 d1 d2 h8 HS
    have hb8 : (d == 8) = false := by rw [beq_eq_false_iff_ne]; exact h8
    have w3k : IntKind.i64.wrap (d + 1) = d + 1 := IntWalk.i64_in _ (by omega)
    clear h hI hk e0 hd
    go_enter Try.func15, Try.ntmps15
    go_wp2_with (first | (go_at_call 28; (with_reducible refine (asked_any _ b gs G HG.out HI.out k).mono ?_); rintro e wq ⟨rfl, hwq⟩; replace hwq := hwq.symm; subst hwq; rw [hz.out]))
    go_region
    all_goals go_wp2
    go_ret
    exact ⟨rfl, by rw [HD.out]; exact ((HG.out.drewN _).setDeep hk8 _), ((One.refl _ _).drewN _).set _ _⟩

set_option maxHeartbeats 1000000 in
theorem unlock_ok (w : World) (h : GrAt w b gs G) (hI : Inv G) (k : Nat) (hk : k < G.C) : Calls Try.prog 16 #[.pointer (some ⟨b, 0, none⟩), .int .i64 (k : Int)] w fun e w' =>
    e = .returned (.int .i64 (unlockG G k).2) ∧ GrAt w' b gs (unlockG G k).1 ∧ One b w w' := by
  have HG := Lib.hid h
  have HI := Lib.hid hI
  have hz : Hid (askE G.C k = 0) := Lib.hid (askE_yes ⟨by omega, by omega⟩)
  have hk8 : k < 8 := by have := hI.c2; omega
  have c1 := h.deep hk8
  have f1 := h.frz (1 + k)
  obtain ⟨d1, d2⟩ := hI.d k
  have hl := h.lt
  have k0 : (0 : Int) ≤ (k : Int) := by omega
  have k1 : (k : Int) < 8 := by omega
  by_cases h8 : G.D k = 0
  · have e0 : unlockG G k = (G, 292) := by unfold unlockG; rw [decide_eq_true h8]; rfl
    rw [e0]
    rw [h8] at c1
    clear h hI hk d1 d2 h8 e0
    go_enter Try.func16, Try.ntmps16
    go_wp2_with (first | (go_at_call 28; (with_reducible refine (asked_any _ b gs G HG.out HI.out k).mono ?_); rintro e wq ⟨rfl, hwq⟩; replace hwq := hwq.symm; subst hwq; rw [hz.out]))
    go_ret
    exact ⟨rfl, HG.out, One.refl _ _⟩
  · have e0 : unlockG G k = ({ G with D := upd G.D k (G.D k - 1) }, 0) := by unfold unlockG; rw [decide_eq_false h8]; rfl
    rw [e0]
    obtain ⟨d, hd⟩ : ∃ d, G.D k = d := ⟨_, rfl⟩
    have HD := Lib.hid hd
    rw [hd] at c1 d1 d2 h8
    have hb8 : (d == 0) = false := by rw [beq_eq_false_iff_ne]; exact h8
    have w3k : IntKind.i64.wrap (d - 1) = d - 1 := IntWalk.i64_in _ (by omega)
    clear h hI hk e0 hd
    go_enter Try.func16, Try.ntmps16
    go_wp2_with (first | (go_at_call 28; (with_reducible refine (asked_any _ b gs G HG.out HI.out k).mono ?_); rintro e wq ⟨rfl, hwq⟩; replace hwq := hwq.symm; subst hwq; rw [hz.out]))
    go_region
    all_goals go_wp2
    go_ret
    exact ⟨rfl, by rw [HD.out]; exact ((HG.out.drewN _).setDeep hk8 _), ((One.refl _ _).drewN _).set _ _⟩

def begN (G : Gr) (j : Nat) : Gr := { G with go := true, N := fun k => decide (k < j) || G.N k }
theorem begN_next (G : Gr) (j : Nat) : { begN G j with N := upd (begN G j).N j true } = begN G (j + 1) := by
  have e : upd (begN G j).N j true = (begN G (j + 1)).N := by
    funext k
    show upd (fun k => decide (k < j) || G.N k) j true k = (decide (k < j + 1) || G.N k)
    by_cases h : k = j
    · subst h; rw [upd_same, decide_eq_true (by omega)]; rfl
    · rw [upd_ne _ _ h]
      by_cases h2 : k < j
      · rw [decide_eq_true h2, decide_eq_true (by omega)]
      · rw [decide_eq_false h2, decide_eq_false (by omega)]
  show Gr.mk _ _ _ _ _ (upd (begN G j).N j true) = _
  rw [e]
  rfl
theorem begN_zero (G : Gr) : { G with go := true } = begN G 0 := by
  unfold begN
  simp
theorem begin_any (w : World) (h : GrAt w b gs G) (hI : Inv G) : Calls Try.prog 42 #[.pointer (some ⟨b, 0, none⟩)] w fun e w' =>
    e = .returned (.tuple #[]) ∧ GrAt w' b gs (begG G) ∧ One b w w' := by
  have c0 := h.cpus
  have f0 := h.frz 18
  have c9 := h.going
  have hl := h.lt
  have HS := Lib.hid (h.setGoing true)
  have HE : Hid (begG G = begN G G.C) := Lib.hid rfl
  rw [begN_zero] at HS
  obtain ⟨C, hC⟩ : ∃ C, G.C = C := ⟨_, rfl⟩
  have h2 := hI.c2
  rw [hC] at c0 h2 HE
  have HC := Lib.hid hC
  clear h hI hC
  go_enter Try.func42, Try.ntmps42
  go_wp2
  go_loopw [10] (fun q wr => ∃ j : Nat, j ≤ C ∧ q = .int .i64 j ∧ Hid (GrAt wr b gs (begN G j)) ∧ One b w wr) (fun q _ => C - (intOf q).toNat)
  case atStart => exact ⟨0, by omega, rfl, HS, (One.refl _ _).set _ _⟩
  case round =>
    obtain ⟨j, hj, rfl, HJ, hT⟩ := hrel
    by_cases hlt : j < C
    · have j8 : j < 8 := by omega
      have cN := HJ.out.needs j8
      have fN := HJ.out.frz (19 + j)
      have j0 : (0 : Int) ≤ (j : Int) := by omega
      have j1 : (j : Int) < (C : Int) := by omega
      have j2 : (j : Int) < 8 := by omega
      have HN := Lib.hid (HJ.out.setNeed j8 true)
      rw [begN_next] at HN
      go_wp2
      go_roundw
      case rel => exact ⟨j + 1, by omega, by go_num, HN, hT.set _ _⟩
      case measure => simp [intOf]; omega
    · obtain rfl : j = C := by omega
      go_wp2
      go_end0
      exact ⟨rfl, by rw [HE.out]; exact HJ.out, hT⟩

theorem lastB_nil (E : Nat) : lastB E [] = false := rfl
theorem lastB_at {E : Nat} {l : List Wt} {m : Nat} (h : l.length = m + 1) : lastB E l = decide ((E : Int) < (l[m]'(by omega)).at_) := by
  unfold lastB
  rw [List.getLast?_eq_getElem?, show l.length - 1 = m by omega, List.getElem?_eq_getElem (by omega)]
set_option maxHeartbeats 1000000 in
theorem waits_any (w : World) (h : GrAt w b gs G) (hI : Inv G) : Calls Try.prog 41 #[.pointer (some ⟨b, 0, none⟩)] w fun e w' =>
    e = .returned (.bool (laterG G)) ∧ Below w.heap.size w w' := by
  have HG := Lib.hid h
  have HI := Lib.hid hI
  have c0 := h.cpus
  have cE := h.ended
  have hl := h.lt
  have h2 := hI.c2
  have HE : Hid (laterG G = anyU (fun k => lastB G.E (G.L k)) G.C) := Lib.hid rfl
  obtain ⟨C, hC⟩ : ∃ C, G.C = C := ⟨_, rfl⟩
  rw [hC] at c0 h2 HE
  have HC := Lib.hid hC
  obtain ⟨E, hE⟩ : ∃ E, G.E = E := ⟨_, rfl⟩
  rw [hE] at cE HE
  clear h hI hC hE
  go_enter Try.func41, Try.ntmps41
  go_wp2
  go_loopw [9] (fun q wr => ∃ j : Nat, j ≤ C ∧ q = .int .i64 j ∧ Hid (anyU (fun k => lastB E (G.L k)) j = false) ∧ Below w.heap.size w wr) (fun q _ => C - (intOf q).toNat)
  case atStart => exact ⟨0, by omega, rfl, Lib.hid rfl, Below.refl _ _⟩
  case round =>
    obtain ⟨j, hj, rfl, HJ, hb⟩ := hrel
    have j0 : (0 : Int) ≤ (j : Int) := by omega
    by_cases hlt : j < C
    · have j1 : (j : Int) < (C : Int) := by omega
      have j8 : j < 8 := by omega
      have cE1 := (hb.cell (p := ⟨b, 17, none⟩) hl).trans cE
      have hz := hb.size
      have hl1 : b < wr.heap.size := Nat.lt_of_lt_of_le hl hz
      go_wp2_with (first | (go_at_call 40; (with_reducible refine (rowOf_any _ b gs G (HG.out.below hb) j j8).mono ?_); rintro e wq ⟨A, n, c, rfl, hR, hwq⟩; replace hwq := hwq.symm; subst hwq))
      rcases Nat.eq_zero_or_pos n with h0 | h0
      · subst h0
        have HN : Hid (anyU (fun k => lastB E (G.L k)) (j + 1) = false) := Lib.hid (by
          unfold anyU
          rw [HJ.out, List.eq_nil_of_length_eq_zero hR.len]; rfl)
        clear hR
        (refine wp_region_ext (wr.heap.size) (by kernel_rfl) (by kernel_rfl) (by go_size) (fun hxc hxf hxh hxn => ?_); (repeat (first | go_big_quiet_step (fail) | quiet_step (fail))); refine wpQuiet_nil ?_; intro w1 hs1; clear hxc hxf hxh hxn; obtain ⟨hb1, hz1, hc1, hf1⟩ := ext_known hs1 (wr.heap.size) (by go_size); clear hs1)
        go_wp2
        go_roundw
        case rel => exact ⟨j + 1, by omega, by go_num, HN, hb.trans (hb1.mono hz)⟩
        case measure => simp [intOf]; omega
      · obtain ⟨m, rfl⟩ : ∃ m, n = m + 1 := ⟨n - 1, by omega⟩
        obtain ⟨g, off, rfl, hgl, hcells⟩ := hR.row (by rw [rowV_len, hR.len]; omega)
        have hml : m < (G.L j).length := by rw [hR.len]; omega
        have cA := (wrow_cells hcells hml).2
        have HL := Lib.hid (lastB_at (E := E) hR.len)
        obtain ⟨a, ha⟩ : ∃ a, (G.L j)[m].at_ = a := ⟨_, rfl⟩
        rw [ha] at cA HL
        have m0 : (0 : Int) ≤ (m : Int) := by omega
        have hm256 := (errC_zero.1 (HI.out.l j)).1
        rw [hR.len] at hm256
        have hc := hR.cap
        have m1 : ((m + 1 : Nat) : Int) - 1 = (m : Int) := by omega
        have m2 : (m : Int) + 1 - 1 = (m : Int) := by omega
        have m3 : (0 : Int) < (m : Int) + 1 := by omega
        clear hR hcells hml ha
        by_cases ht : (E : Int) < a
        · have HY : Hid (anyU (fun k => lastB E (G.L k)) C = true) := Lib.hid (anyU_yes (k := j) hlt (by rw [HL.out]; exact decide_eq_true ht))
          (refine wp_region_ext (wr.heap.size) (by kernel_rfl) (by kernel_rfl) (by go_size) (fun hxc hxf hxh hxn => ?_); (repeat (first | go_big_quiet_step (fail) | quiet_step (fail))); refine wpQuiet_nil ?_; intro w1 hs1; clear hxc hxf hxh hxn; obtain ⟨hb1, hz1, hc1, hf1⟩ := ext_known hs1 (wr.heap.size) (by go_size); clear hs1)
          go_wp2
          go_ret
          exact ⟨by rw [HE.out, HY.out]; rfl, hb.trans (hb1.mono hz)⟩
        · have HN : Hid (anyU (fun k => lastB E (G.L k)) (j + 1) = false) := Lib.hid (by
            unfold anyU
            rw [HJ.out, HL.out, decide_eq_false ht]; rfl)
          (refine wp_region_ext (wr.heap.size) (by kernel_rfl) (by kernel_rfl) (by go_size) (fun hxc hxf hxh hxn => ?_); (repeat (first | go_big_quiet_step (fail) | quiet_step (fail))); refine wpQuiet_nil ?_; intro w1 hs1; clear hxc hxf hxh hxn; obtain ⟨hb1, hz1, hc1, hf1⟩ := ext_known hs1 (wr.heap.size) (by go_size); clear hs1)
          go_wp2
          go_roundw
          case rel => exact ⟨j + 1, by omega, by go_num, HN, hb.trans (hb1.mono hz)⟩
          case measure => simp [intOf]; omega
    · obtain rfl : j = C := by omega
      go_wp2
      go_ret
      exact ⟨by rw [HE.out, HJ.out]; rfl, hb⟩
end

end Go.Proofs.Ytodaknidbdicdaa
