/-
  The walks of Call and Poll.
-/
import Derived.Test.YtodaknidbdicdaaWalkC
import Derived.WalkKit
import Derived.Deep.DeepMust
import Derived.WalkSpells
import Derived.WalkLawsBesides
import Derived.Handy
import Derived.Lib.Hide
import Derived.Deep.QuietTactic
import Derived.BigQuiet
namespace Go.Proofs.Ytodaknidbdicdaa
open Go.RowKit

theorem HasRow.of_rest {w w' : World} {gs : List Nat} {A : Option Addr} {n c : Nat} {l : List Wt} (h : RestAt w' w.heap.size A l) (hg : ∀ g ∈ gs, g < w.heap.size) (hl : l.length = n) (hc : n ≤ c) : HasRow w' gs A n c l :=
  ⟨hl, hc, h.row, fun hn g off e hm => by
    obtain ⟨g', off', e', h1, -⟩ := h (by omega)
    rw [e] at e'
    injection e' with e2
    injection e2 with e3
    have := hg g hm
    omega⟩
theorem HasRow.of_own {w w' : World} {gs : List Nat} {v : Value} {l : List Wt} (h : w'.ownsRow w.heap.size 78 2 v l.length (rowV l)) (hg : ∀ g ∈ gs, g < w.heap.size) : ∃ A c, v = .slice A l.length c ∧ HasRow w' gs A l.length c l := by
  obtain ⟨A, c, rfl, hc, -⟩ := WRow.slice h
  exact ⟨A, c, rfl, HasRow.of_rest (RestAt.of_own h rfl) hg rfl hc⟩

section
variable {b : Nat} {gs : List Nat} {G : Gr}
theorem call_no (w : World) (h : GrAt w b gs G) (hI : Inv G) (x i : Int) (hx : ¬ (0 ≤ x ∧ x < G.C)) : Calls Try.prog 18 #[.pointer (some ⟨b, 0, none⟩), .int .i64 x, .int .i64 i] w fun e w' => e = .returned (.int .i64 9) ∧ w' = w := by
  have HG := Lib.hid h
  have HI := Lib.hid hI
  have hz : Hid (askE G.C x = 9) := Lib.hid (askE_no hx)
  clear h hI hx
  go_enter Try.func18, Try.ntmps18
  go_wp2_with (first | (go_at_call 28; (with_reducible refine (asked_any _ b gs G HG.out HI.out x).mono ?_); rintro e wq ⟨rfl, hwq⟩; replace hwq := hwq.symm; subst hwq; rw [hz.out]))
  go_ret
  exact ⟨rfl, rfl⟩
theorem poll_no (w : World) (h : GrAt w b gs G) (hI : Inv G) (x : Int) (hx : ¬ (0 ≤ x ∧ x < G.C)) : Calls Try.prog 13 #[.pointer (some ⟨b, 0, none⟩), .int .i64 x] w fun e w' => e = .returned (.tuple #[.slice none 0 0, .int .i64 9]) ∧ w' = w := by
  have HG := Lib.hid h
  have HI := Lib.hid hI
  have hz : Hid (askE G.C x = 9) := Lib.hid (askE_no hx)
  clear h hI hx
  go_enter Try.func13, Try.ntmps13
  go_wp2_with (first | (go_at_call 28; (with_reducible refine (asked_any _ b gs G HG.out HI.out x).mono ?_); rintro e wq ⟨rfl, hwq⟩; replace hwq := hwq.symm; subst hwq; rw [hz.out]))
  go_ret2
  exact ⟨rfl, rfl⟩

theorem callG_bad {k : Nat} {i : Int} (h : i < 0 ∨ 9007199254740991 < i) : callG G k i = (G, 2) := by unfold callG; rw [decide_eq_true h]; rfl
theorem callG_full {k : Nat} {i : Int} (h : ¬ (i < 0 ∨ 9007199254740991 < i)) (h2 : (G.L k).length = 256) : callG G k i = (G, 5) := by unfold callG; rw [decide_eq_false h, decide_eq_true h2]; rfl
theorem callG_put {k : Nat} {i : Int} (h : ¬ (i < 0 ∨ 9007199254740991 < i)) (h2 : (G.L k).length ≠ 256) {G1 : Gr} {a : Int} (hc : calG G = (G1, a)) {r : List Wt} {er : Int} (ha : addF (G.L k) ⟨i, a⟩ = (r, er)) : callG G k i = putG G1 k (r, er) := by
  unfold callG; rw [decide_eq_false h, decide_eq_false h2, hc]
  show putG G1 k (addF (G.L k) ⟨i, a⟩) = _
  rw [ha]
theorem putG_ok {k : Nat} {r : List Wt} : putG G k (r, 0) = ({ G with L := upd G.L k r }, 0) := rfl
theorem putG_no {k : Nat} {r : List Wt} {er : Int} (h : er ≠ 0) : putG G k (r, er) = (G, er) := by unfold putG; rw [decide_eq_false h]; rfl
theorem addF_len {l r : List Wt} {x : Wt} {e : Int} (h : addF l x = (r, e)) (h0 : e ≠ 0) : r = [] := by
  by_cases h1 : errC l = 0
  · by_cases h2 : l.length = 256
    · rw [addF_full h1 h2] at h; injection h with h3 _; exact h3.symm
    · by_cases h3 : errC (l ++ [x]) = 0
      · rw [addF_ok h1 h2 h3] at h; injection h with _ h4; exact absurd h4.symm h0
      · rw [addF_bad h1 h2 h3] at h; injection h with h3 _; exact h3.symm
  · rw [addF_err h1] at h; injection h with h3 _; exact h3.symm

set_option maxHeartbeats 2000000 in
theorem call_ok (w : World) (h : GrAt w b gs G) (hI : Inv G) (hE : G.E ≤ 1000000) (k : Nat) (hk : k < G.C) (i : Int) : Calls Try.prog 18 #[.pointer (some ⟨b, 0, none⟩), .int .i64 (k : Int), .int .i64 i] w fun e w' =>
    e = .returned (.int .i64 (callG G k i).2) ∧ GrAt w' b gs (callG G k i).1 ∧ One b w w' := by
  have HG := Lib.hid h
  have HI := Lib.hid hI
  have hz : Hid (askE G.C k = 0) := Lib.hid (askE_yes ⟨by omega, by omega⟩)
  have hk8 : k < 8 := by have := hI.c2; omega
  have hl := h.lt
  have h256 := (errC_zero.1 (hI.l k)).1
  have k0 : (0 : Int) ≤ (k : Int) := by omega
  have k1 : (k : Int) < 8 := by omega
  by_cases hi : i < 0 ∨ 9007199254740991 < i
  · rw [callG_bad hi]
    rcases (by omega : i < 0 ∨ (¬ i < 0 ∧ 9007199254740991 < i)) with h1 | ⟨h1, h2⟩
    all_goals
      clear h hI hk hi
      go_enter Try.func18, Try.ntmps18
      go_wp2_with (first | (go_at_call 28; (with_reducible refine (asked_any _ b gs G HG.out HI.out k).mono ?_); rintro e wq ⟨rfl, hwq⟩; replace hwq := hwq.symm; subst hwq; rw [hz.out]) | (go_at_call 40; (with_reducible refine (rowOf_any _ b gs G HG.out k hk8).mono ?_); rintro e wq ⟨A, n, c, rfl, hR, hwq⟩; replace hwq := hwq.symm; subst hwq))
      go_ret
      exact ⟨rfl, HG.out, One.refl _ _⟩
  · have i1 : ¬ i < 0 := fun e => hi (.inl e)
    have i2 : ¬ 9007199254740991 < i := fun e => hi (.inr e)
    by_cases h2 : (G.L k).length = 256
    · rw [callG_full hi h2]
      have H2 := Lib.hid h2
      clear h hI hk hi h256 h2
      go_enter Try.func18, Try.ntmps18
      go_wp2_with (first | (go_at_call 28; (with_reducible refine (asked_any _ b gs G HG.out HI.out k).mono ?_); rintro e wq ⟨rfl, hwq⟩; replace hwq := hwq.symm; subst hwq; rw [hz.out]) | (go_at_call 40; (with_reducible refine (rowOf_any _ b gs G HG.out k hk8).mono ?_); rintro e wq ⟨A, n, c, rfl, hR, hwq⟩; replace hwq := hwq.symm; subst hwq; obtain rfl : n = 256 := hR.len.symm.trans H2.out))
      go_ret
      exact ⟨rfl, HG.out, One.refl _ _⟩
    · obtain ⟨r, er, ha⟩ : ∃ r er, addF (G.L k) ⟨i, (calG G).2⟩ = (r, er) := ⟨_, _, rfl⟩
      have e0 := callG_put hi h2 (G1 := (calG G).1) (a := (calG G).2) rfl ha
      rw [e0]
      have c1 := h.ended
      have c2 := h.going
      have hI1 := Lib.hid (hI.cal)
      have hr0 := Lib.hid (fun h0 => addF_len ha h0)
      have H256 : Hid ((G.L k).length ≤ 256 ∧ (G.L k).length ≠ 256) := Lib.hid ⟨h256, h2⟩
      obtain ⟨E, hEE⟩ : ∃ E, G.E = E := ⟨_, rfl⟩
      have HB := Lib.hid (hI.beg)
      cases hg : G.go
      · have hcal : calG G = (begG G, (E : Int) + 1) := by unfold calG; rw [hg, hEE]; rfl
        rw [hcal] at ha ⊢
        have HA := Lib.hid ha
        rw [hg] at c2
        rw [hEE] at c1 hE
        have w1k : IntKind.i64.wrap ((E : Int) + 1) = (E : Int) + 1 := IntWalk.i64_in _ (by omega)
        clear h hI hk hi h256 h2 e0 hcal hg hEE hI1 ha
        by_cases h0 : er = 0
        · subst h0
          rw [putG_ok]
          clear hr0
          go_enter Try.func18, Try.ntmps18
          go_wp2_with (first | (go_at_call 28; (with_reducible refine (asked_any _ b gs G HG.out HI.out k).mono ?_); rintro e wq ⟨rfl, hwq⟩; replace hwq := hwq.symm; subst hwq; rw [hz.out]) | (go_at_call 40; (with_reducible refine (rowOf_any _ b gs G HG.out k hk8).mono ?_); rintro e wq ⟨A, n, c, rfl, hR, hwq⟩; replace hwq := hwq.symm; subst hwq; have hn := H256.out; rw [hR.len] at hn; obtain ⟨hn1, hn2⟩ := hn; have hn3 : ((n : Int) == 256) = false := beq_eq_false_iff_ne.2 (by omega)) | (go_at_call 42; refine (begin_any _ HG.out HI.out).mono ?_; rintro e w2 ⟨rfl, hN, hT⟩; have HN := Lib.hid hN; have HT := Lib.hid hT; have HR := Lib.hid (hR.one hT HG.out.mem); have hl2 := hN.lt; clear hN hT) | (go_at_call 43; (with_reducible refine (add_any (G.L k) i ((E : Int) + 1) A n c _ (Lib.hid HR.out.len) (by omega) HR.out.row r 0 HA.out).mono ?_); rintro e w3 ⟨v, rfl, ho, hb3⟩; obtain ⟨A3, c3, rfl, hR3⟩ := HasRow.of_own ho HN.out.lts; have HN3 := Lib.hid (HN.out.below hb3); have f3 := HN3.out.frz (9 + k); obtain ⟨vv, c93, -⟩ := HN3.out.rows hk8))
          go_ret
          exact ⟨rfl, HN3.out.setRow hk8 hR3, (HT.out.trans (One.of_below b hb3)).set _ _⟩
        · rw [putG_no h0]
          have hne : (er == 0) = false := beq_eq_false_iff_ne.2 h0
          obtain rfl : r = [] := hr0.out h0
          clear hr0 h0
          go_enter Try.func18, Try.ntmps18
          go_wp2_with (first | (go_at_call 28; (with_reducible refine (asked_any _ b gs G HG.out HI.out k).mono ?_); rintro e wq ⟨rfl, hwq⟩; replace hwq := hwq.symm; subst hwq; rw [hz.out]) | (go_at_call 40; (with_reducible refine (rowOf_any _ b gs G HG.out k hk8).mono ?_); rintro e wq ⟨A, n, c, rfl, hR, hwq⟩; replace hwq := hwq.symm; subst hwq; have hn := H256.out; rw [hR.len] at hn; obtain ⟨hn1, hn2⟩ := hn; have hn3 : ((n : Int) == 256) = false := beq_eq_false_iff_ne.2 (by omega)) | (go_at_call 42; refine (begin_any _ HG.out HI.out).mono ?_; rintro e w2 ⟨rfl, hN, hT⟩; have HN := Lib.hid hN; have HT := Lib.hid hT; have HR := Lib.hid (hR.one hT HG.out.mem); have hl2 := hN.lt; clear hN hT) | (go_at_call 43; (with_reducible refine (add_any (G.L k) i ((E : Int) + 1) A n c _ (Lib.hid HR.out.len) (by omega) HR.out.row [] er HA.out).mono ?_); rintro e w3 ⟨v, rfl, ho, hb3⟩; have HN3 := Lib.hid (HN.out.below hb3)))
          go_ret
          exact ⟨rfl, HN3.out, (HT.out.trans (One.of_below b hb3))⟩
      · have hcal : calG G = (G, (E : Int) + 2) := by unfold calG; rw [hg, hEE]; rfl
        rw [hcal] at ha ⊢
        have HA := Lib.hid ha
        rw [hg] at c2
        rw [hEE] at c1 hE
        have w1k : IntKind.i64.wrap ((E : Int) + 1) = (E : Int) + 1 := IntWalk.i64_in _ (by omega)
        have w2k : IntKind.i64.wrap ((E : Int) + 1 + 1) = (E : Int) + 2 := (IntWalk.i64_in _ (by omega)).trans (by omega)
        clear h hI hk hi h256 h2 e0 hcal hg hEE hI1 ha
        by_cases h0 : er = 0
        · subst h0
          rw [putG_ok]
          clear hr0
          go_enter Try.func18, Try.ntmps18
          go_wp2_with (first | (go_at_call 28; (with_reducible refine (asked_any _ b gs G HG.out HI.out k).mono ?_); rintro e wq ⟨rfl, hwq⟩; replace hwq := hwq.symm; subst hwq; rw [hz.out]) | (go_at_call 40; (with_reducible refine (rowOf_any _ b gs G HG.out k hk8).mono ?_); rintro e wq ⟨A, n, c, rfl, hR, hwq⟩; replace hwq := hwq.symm; subst hwq; have hn := H256.out; rw [hR.len] at hn; obtain ⟨hn1, hn2⟩ := hn; have hn3 : ((n : Int) == 256) = false := beq_eq_false_iff_ne.2 (by omega); have HR := Lib.hid hR) | (go_at_call 43; refine (add_any (G.L k) i ((E : Int) + 2) A n c _ (Lib.hid HR.out.len) (by omega) HR.out.row r 0 HA.out).mono ?_; rintro e w3 ⟨v, rfl, ho, hb3⟩; obtain ⟨A3, c3, rfl, hR3⟩ := HasRow.of_own ho HG.out.lts; have HN3 := Lib.hid (HG.out.below hb3); have f3 := HN3.out.frz (9 + k); obtain ⟨vv, c93, -⟩ := HN3.out.rows hk8))
          go_ret
          exact ⟨rfl, HN3.out.setRow hk8 hR3, (One.of_below b hb3).set _ _⟩
        · rw [putG_no h0]
          have hne : (er == 0) = false := beq_eq_false_iff_ne.2 h0
          obtain rfl : r = [] := hr0.out h0
          clear hr0 h0
          go_enter Try.func18, Try.ntmps18
          go_wp2_with (first | (go_at_call 28; (with_reducible refine (asked_any _ b gs G HG.out HI.out k).mono ?_); rintro e wq ⟨rfl, hwq⟩; replace hwq := hwq.symm; subst hwq; rw [hz.out]) | (go_at_call 40; (with_reducible refine (rowOf_any _ b gs G HG.out k hk8).mono ?_); rintro e wq ⟨A, n, c, rfl, hR, hwq⟩; replace hwq := hwq.symm; subst hwq; have hn := H256.out; rw [hR.len] at hn; obtain ⟨hn1, hn2⟩ := hn; have hn3 : ((n : Int) == 256) = false := beq_eq_false_iff_ne.2 (by omega); have HR := Lib.hid hR) | (go_at_call 43; refine (add_any (G.L k) i ((E : Int) + 2) A n c _ (Lib.hid HR.out.len) (by omega) HR.out.row [] er HA.out).mono ?_; rintro e w3 ⟨v, rfl, ho, hb3⟩; have HN3 := Lib.hid (HG.out.below hb3)))
          go_ret
          exact ⟨rfl, HN3.out, One.of_below b hb3⟩

set_option maxHeartbeats 2000000 in
theorem poll_ok (w : World) (h : GrAt w b gs G) (hI : Inv G) (k : Nat) (hk : k < G.C) : Calls Try.prog 13 #[.pointer (some ⟨b, 0, none⟩), .int .i64 (k : Int)] w fun e w' =>
    ∃ A c, e = .returned (.tuple #[.slice A (polled G k).length c, .int .i64 0]) ∧ w'.ownsRow w.heap.size 3 1 (.slice A (polled G k).length c) (polled G k).length (intsV (polled G k)) ∧ GrAt w' b gs (pollG G k) ∧ One b w w' := by
  have HG := Lib.hid h
  have HI := Lib.hid hI
  have hz : Hid (askE G.C k = 0) := Lib.hid (askE_yes ⟨by omega, by omega⟩)
  have hk8 : k < 8 := by have := hI.c2; omega
  have hl := h.lt
  have c1 := h.ended
  have HE := Lib.hid (hI.l k)
  have k0 : (0 : Int) ≤ (k : Int) := by omega
  have k1 : (k : Int) < 8 := by omega
  have HP : Hid (polled G k = idsL ((G.L k).take (cutN G.E (G.L k)))) := Lib.hid rfl
  have HQ : Hid (pollG G k = { G with L := upd G.L k ((G.L k).drop (cutN G.E (G.L k))) }) := Lib.hid rfl
  obtain ⟨E, hEE⟩ : ∃ E, G.E = E := ⟨_, rfl⟩
  obtain ⟨K, hK⟩ : ∃ K, cutN E (G.L k) = K := ⟨_, rfl⟩
  rw [hEE] at c1 HP HQ
  rw [hK] at HP HQ
  have HK := Lib.hid hK
  have HKL : Hid (K ≤ (G.L k).length) := Lib.hid (by rw [← hK]; exact cutN_le _ _)
  clear h hI hk hEE hK
  go_enter Try.func13, Try.ntmps13
  go_wp2_with (first | (go_at_call 28; (with_reducible refine (asked_any _ b gs G HG.out HI.out k).mono ?_); rintro e wq ⟨rfl, hwq⟩; replace hwq := hwq.symm; subst hwq; rw [hz.out]))
  go_region_held3 (fun w' => w'.cell? ⟨b, 17, none⟩ = some (.int .i64 (E : Int))) (assumption) (first | (go_at_call 40; refine (rowOf_any _ b gs G (HG.out.below (by (repeat' (first | (with_reducible exact Below.refl _ _) | (with_reducible assumption) | (with_reducible refine Below.alloc ?_ ?_ _) | (with_reducible refine below_drewN ?_ _) | (with_reducible refine Below.drew ?_) | (with_reducible refine Below.setCell ?_ ?_ _) | (with_reducible refine below_two ?_ (by with_reducible assumption)) | go_size)))) k hk8).mono ?_; rintro e wq ⟨A, n, c, rfl, hR, hwq⟩; replace hwq := hwq.symm; subst hwq) | (go_at_call 39; refine (ready_any (G.L k) E A n c _ (Lib.hid hR.len) hR.row HE.out K HK.out).mono ?_; rintro e w3 ⟨v, A3, c3, rfl, ho, hrest, hc3, hb3⟩; have y1 := (hb3.cell (p := ⟨b, 17, none⟩) hl).trans c1; have HN3 := Lib.hid (HG.out.drew.below hb3); have f3 := HN3.out.frz (9 + k); obtain ⟨vv, c93, -⟩ := HN3.out.rows hk8; have HR3 := Lib.hid (HasRow.of_rest hrest HG.out.drew.lts (n := n - K) (by rw [List.length_drop, hR.len]) hc3); have HO := Lib.hid ho; have HT := Lib.hid ((One.refl b w).drew.trans (One.of_below b hb3))))
  all_goals go_wp2
  all_goals go_ret2
  have ho4 := RowKit.ownsRow_setCell_below HO.out (a := ⟨b, 9 + k, none⟩) (show b < w.drew.heap.size from hl) (.iface 66 (.slice A3 (n - K) c3))
  obtain ⟨A4, c4, rfl, -⟩ := Row.slice ho4
  have hlen : (polled G k).length = K := by
    rw [HP.out]
    unfold idsL
    rw [List.length_map, List.length_take]
    have := HKL.out
    omega
  refine ⟨A4, c4, by rw [hlen]; rfl, by rw [hlen, HP.out]; exact ho4, ?_, HT.out.set _ _⟩
  have h5 := HN3.out.setRow hk8 HR3.out
  rw [HQ.out]
  have e5 : G.E = E := by
    have h6 := HG.out.ended
    rw [c1] at h6
    injection h6 with h7
    injection h7 with _ h8
    omega
  rw [← e5]
  exact h5
end

end Go.Proofs.Ytodaknidbdicdaa
