/-
  The walk of ChargeBounds: bounds, and errors that change nothing.
-/
import Derived.Test.YtnbeofbkfopehaaLawC
import Derived.WalkKit
import Derived.Deep.DeepMust
import Derived.WalkSpells
import Derived.WalkLawsBesides
import Derived.Handy
import Derived.Lib.Hide
import Derived.Deep.QuietTactic
import Derived.BigQuiet
namespace Go.Proofs.Ytnbeofbkfopehaa
open Go.RowKit

/-- The first k of the counts, 0 behind. -/
def cutU (U : Nat → Int) (k : Nat) : Nat → Int := fun j => if j < k then U j else 0
theorem cutU_zero (U : Nat → Int) : cutU U 0 = zeroU := by funext j; unfold cutU zeroU; rw [if_neg (by omega)]
theorem cutU_next (U : Nat → Int) (k : Nat) : upd (cutU U k) k (U k) = cutU U (k + 1) := by
  funext j
  unfold upd cutU
  by_cases h : j = k
  · subst h; rw [if_pos rfl, if_pos (by omega)]
  · rw [if_neg h]
    by_cases h2 : j < k
    · rw [if_pos h2, if_pos (by omega)]
    · rw [if_neg h2, if_neg (by omega)]
theorem OwnC.full {cs : Array Value} {U : Nat → Int} (h : OwnC cs (cutU U 16)) : OwnC cs U :=
  ⟨h.1, fun k hk => by rw [h.2 k hk]; unfold cutU; rw [if_pos hk]⟩
theorem getF_at (U : Nat → Int) {k : Nat} (hk : k < 16) : getF U (1 + (k : Int)) = U k := by
  unfold getF
  rw [if_pos (by omega), show (1 + (k : Int) - 1).toNat = k by omega]

/-- What rises stays below the limit. -/
def Bnd (U U' M : Nat → Int) : Prop := ∀ k, k < 16 → U k < U' k → U' k ≤ M k
theorem Bnd.refl (U M : Nat → Int) : Bnd U U M := fun _ _ h => absurd h (Int.lt_irrefl _)
theorem upU_err {U M : Nat → Int} {x n e : Int} (he : upE U M x n = e) (h : e ≠ 0) : upU U M x n = U := by unfold upU; rw [if_neg (by rw [he]; exact h)]
theorem dnU_err {U : Nat → Int} {x n e : Int} (he : dnE U x n = e) (h : e ≠ 0) : dnU U x n = U := by unfold dnU; rw [if_neg (by rw [he]; exact h)]
theorem tryU_err {U M : Nat → Int} {xs : List Int} {n e : Int} (he : tryE U M xs n = e) (h : e ≠ 0) : tryU U M xs n = U := by unfold tryU; rw [if_neg (by rw [he]; exact h)]
theorem backU_err {U : Nat → Int} {xs : List Int} {n e : Int} (he : backE U xs n = e) (h : e ≠ 0) : backU U xs n = U := by unfold backU; rw [if_neg (by rw [he]; exact h)]
theorem up_bnd (U M : Nat → Int) (x n : Int) : Bnd U (upU U M x n) M := by
  unfold upU
  by_cases h : upE U M x n = 0
  · rw [if_pos h]
    unfold upE at h
    by_cases h0 : askF [x] n = 0
    · rw [if_pos h0] at h
      by_cases hq : n ≤ M (x - 1).toNat - U (x - 1).toNat
      · intro k _ hk
        unfold upd at hk ⊢
        by_cases hkx : k = (x - 1).toNat
        · rw [if_pos hkx, hkx]; omega
        · rw [if_neg hkx] at hk; omega
      · rw [if_neg hq] at h; omega
    · rw [if_neg h0] at h; omega
  · rw [if_neg h]; exact Bnd.refl _ _
theorem dn_bnd (U M : Nat → Int) (x n : Int) : Bnd U (dnU U x n) M := by
  unfold dnU
  by_cases h : dnE U x n = 0
  · rw [if_pos h]
    unfold dnE at h
    by_cases h0 : askF [x] n = 0
    · obtain ⟨-, -, h3, -⟩ := ask_one h0
      intro k _ hk
      unfold upd at hk
      by_cases hkx : k = (x - 1).toNat
      · rw [if_pos hkx, hkx] at hk; omega
      · rw [if_neg hkx] at hk; omega
    · rw [if_neg h0] at h; omega
  · rw [if_neg h]; exact Bnd.refl _ _
theorem try_bnd (U M : Nat → Int) (xs : List Int) (n : Int) : Bnd U (tryU U M xs n) M := by
  unfold tryU
  by_cases h : tryE U M xs n = 0
  · rw [if_pos h]
    unfold tryE at h
    by_cases h0 : askF xs n = 0
    · rw [if_pos h0] at h
      by_cases hq : fullF U M n xs = 0
      · intro k _ hk
        have hg := (askF_zero.1 h0).1
        unfold addP at hk ⊢
        by_cases hm : ((k : Int) + 1) ∈ xs
        · rw [if_pos hm]
          have := full_room hg hq k hm
          omega
        · rw [if_neg hm] at hk; omega
      · rw [if_neg hq] at h; omega
    · rw [if_neg h0] at h; omega
  · rw [if_neg h]; exact Bnd.refl _ _
theorem back_bnd (U M : Nat → Int) (xs : List Int) (n : Int) : Bnd U (backU U xs n) M := by
  unfold backU
  by_cases h : backE U xs n = 0
  · rw [if_pos h]
    unfold backE at h
    by_cases h0 : askF xs n = 0
    · obtain ⟨-, -, h3, -⟩ := ask_len h0
      intro k _ hk
      unfold addP at hk
      by_cases hm : ((k : Int) + 1) ∈ xs
      · rw [if_pos hm] at hk; omega
      · rw [if_neg hm] at hk; omega
    · rw [if_neg h0] at h; omega
  · rw [if_neg h]; exact Bnd.refl _ _

set_option maxRecDepth 100000 in
set_option maxHeartbeats 16000000 in
theorem bounds_any (l : Nat) (A : Option Addr) (c : Nat) (D : Nat → DoR) (W : World) (hX : Dos W A l D) : Calls Try.prog 5 #[.slice A l c] W fun e w' => e = .returned (.bool true) ∧ Below W.heap.size W w' := by
  go_enter Try.func5, Try.ntmps5
  have HX := Lib.hid hX
  clear hX
  go_wp2_with (first | (go_at_call 15; (with_reducible refine (works_any _).mono ?_); rintro e wk ⟨rfl, hbk⟩; have hzk := hbk.size) | (go_at_call 8; (with_reducible refine (new_any _).mono ?_); rintro r w1 ⟨b, rfl, hC, hb', hB1⟩; have hB := hbk.trans (hB1.mono hzk); clear hB1 hbk))
  have hb : W.heap.size ≤ b := by omega
  clear hb' hzk
  go_loopw [4] (fun q wr => ∃ (i : Nat) (U M : Nat → Int), i ≤ l ∧ i ≤ 100 ∧ q = .int .i64 i ∧ ChAt wr b U M ∧ Hid (Fine U M) ∧ Below W.heap.size W wr) (fun q _ => 100 - (intOf q).toNat)
  case atStart => exact ⟨0, zeroU, mostU, by omega, by omega, rfl, hC, Lib.hid fine_new, hB⟩
  case round =>
    clear hC hB
    obtain ⟨i, U, M, hil, hi1, rfl, hC, HF, hB⟩ := hrel
    have hz := hB.size
    have hthree : (i < l ∧ i < 100) ∨ ¬ i < l ∨ (i < l ∧ ¬ i < 100) := by omega
    rcases hthree with ⟨hlt, h100⟩ | hlt | ⟨hlt, h100⟩
    · obtain ⟨g0, off, hA0, hg0, hc⟩ := HX.out (by omega)
      subst hA0
      obtain ⟨e0, e1, e2, e3, e4, e5⟩ := hc i hlt
      obtain ⟨d, hd⟩ : ∃ d, D i = d := ⟨_, rfl⟩
      rw [hd] at e0 e1 e2 e3 e4 e5
      obtain ⟨K, X, N, PA, pp, pc⟩ := d
      simp only at e0 e1 e2 e3 e4 e5
      obtain ⟨L, hL⟩ : ∃ L, Hid (pp.length = L) := ⟨_, Lib.hid rfl⟩
      rw [hL.out] at e3 e5
      unfold maxLen at e5
      have c0 := (hB.cell (p := ⟨g0, _, none⟩) hg0).trans e0
      have c1 := (hB.cell (p := ⟨g0, _, none⟩) hg0).trans e1
      have c2 := (hB.cell (p := ⟨g0, _, none⟩) hg0).trans e2
      have c3 := (hB.cell (p := ⟨g0, _, none⟩) hg0).trans e3
      have HP : Hid (RowB W W.heap.size PA (intsV pp)) := Lib.hid e4.toB
      clear e0 e1 e2 e3 e4 hd hc
      have i0 : (0 : Int) ≤ (i : Int) := by omega
      have i1 : (i : Int) < (l : Int) := by omega
      have i2 : (i : Int) < 100 := by omega
      have hbl := hC.lt
      obtain ⟨wo, hwo⟩ : ∃ wo : World, wo = wr := ⟨_, rfl⟩
      subst hwo
      go_wp2
      have hX : Blk ((wo.alloc (.cells #[.int .i64 K, .int .i64 X, .int .i64 N, .slice PA L pc] 29)).alloc (.cells #[.int .i64 0, .int .i64 0, .int .i64 0, .int .i64 0, .int .i64 0, .int .i64 0, .int .i64 0, .int .i64 0, .int .i64 0, .int .i64 0, .int .i64 0, .int .i64 0, .int .i64 0, .int .i64 0, .int .i64 0, .int .i64 0, .int .i64 0] 25)) wo.heap.size 29 #[.int .i64 K, .int .i64 X, .int .i64 N, .slice PA L pc] := (Blk.new wo 29 _).alloc _
      have hO : Blk ((wo.alloc (.cells #[.int .i64 K, .int .i64 X, .int .i64 N, .slice PA L pc] 29)).alloc (.cells #[.int .i64 0, .int .i64 0, .int .i64 0, .int .i64 0, .int .i64 0, .int .i64 0, .int .i64 0, .int .i64 0, .int .i64 0, .int .i64 0, .int .i64 0, .int .i64 0, .int .i64 0, .int .i64 0, .int .i64 0, .int .i64 0, .int .i64 0] 25)) (wo.heap.size + 1) 25 #[.int .i64 0, .int .i64 0, .int .i64 0, .int .i64 0, .int .i64 0, .int .i64 0, .int .i64 0, .int .i64 0, .int .i64 0, .int .i64 0, .int .i64 0, .int .i64 0, .int .i64 0, .int .i64 0, .int .i64 0, .int .i64 0, .int .i64 0] := Blk.new2 wo _ 25 _
      have hC := (hC.alloc (.cells #[.int .i64 K, .int .i64 X, .int .i64 N, .slice PA L pc] 29)).alloc (.cells #[.int .i64 0, .int .i64 0, .int .i64 0, .int .i64 0, .int .i64 0, .int .i64 0, .int .i64 0, .int .i64 0, .int .i64 0, .int .i64 0, .int .i64 0, .int .i64 0, .int .i64 0, .int .i64 0, .int .i64 0, .int .i64 0, .int .i64 0] 25)
      have hB := (hB.alloc hz (.cells #[.int .i64 K, .int .i64 X, .int .i64 N, .slice PA L pc] 29)).alloc (by simp; omega) (.cells #[.int .i64 0, .int .i64 0, .int .i64 0, .int .i64 0, .int .i64 0, .int .i64 0, .int .i64 0, .int .i64 0, .int .i64 0, .int .i64 0, .int .i64 0, .int .i64 0, .int .i64 0, .int .i64 0, .int .i64 0, .int .i64 0, .int .i64 0] 25)
      obtain ⟨w2, hw2⟩ : ∃ w2 : World, w2 = (wo.alloc (.cells #[.int .i64 K, .int .i64 X, .int .i64 N, .slice PA L pc] 29)).alloc (.cells #[.int .i64 0, .int .i64 0, .int .i64 0, .int .i64 0, .int .i64 0, .int .i64 0, .int .i64 0, .int .i64 0, .int .i64 0, .int .i64 0, .int .i64 0, .int .i64 0, .int .i64 0, .int .i64 0, .int .i64 0, .int .i64 0, .int .i64 0] 25) := ⟨_, rfl⟩
      rw [← hw2] at hX hO hC hB ⊢
      clear hw2
      obtain ⟨x, hx⟩ : ∃ x, wo.heap.size = x := ⟨_, rfl⟩
      obtain ⟨o, ho⟩ : ∃ o, x + 1 = o := ⟨_, rfl⟩
      rw [hx] at hX hO hz hbl ⊢
      rw [ho] at hO ⊢
      have hob : o ≠ b := by omega
      have hxb : x ≠ b := by omega
      have hox : o ≠ x := by omega
      have hzo : W.heap.size ≤ o := by omega
      clear hx ho c0 c1 c2 c3
      go_loopw [7] (fun q wr => ∃ (k : Nat) (cs : Array Value), k ≤ 16 ∧ q = .int .i64 (1 + (k : Int)) ∧ Blk wr o 25 cs ∧ Hid (OwnC cs (cutU U k)) ∧ Blk wr x 29 #[.int .i64 K, .int .i64 X, .int .i64 N, .slice PA L pc] ∧ ChAt wr b U M ∧ Below W.heap.size W wr) (fun q _ => 17 - (intOf q).toNat)
      case atStart => exact ⟨0, _, by omega, by go_num, hO, Lib.hid (by rw [cutU_zero]; exact OwnC.zero), hX, hC, hB⟩
      case round =>
        clear hO hX hC hB
        obtain ⟨k, cs, hk, rfl, hO, HO, hX, hC, hB⟩ := hrel
        by_cases hk16 : k < 16
        · have k0 : (0 : Int) ≤ (k : Int) := by omega
          have k1 : 1 + (k : Int) < 17 := by omega
          obtain ⟨u, hu⟩ : ∃ u, U k = u := ⟨_, rfl⟩
          have HU : Hid (getF U (1 + (k : Int)) = u) := Lib.hid (by rw [getF_at _ hk16, hu])
          have cO := hO.cell (1 + k)
          rw [HO.out.2 k hk16] at cO
          obtain ⟨z, hz2⟩ : ∃ z, cutU U k k = z := ⟨_, rfl⟩
          rw [hz2] at cO
          have fO := hO.frozen (1 + k)
          have HN := Lib.hid (HO.out.set hk16 u)
          rw [← hu, cutU_next, hu] at HN
          have hol := hO.lt
          clear hu hz2
          go_wp2_with (first | (go_at_call 14; (with_reducible refine (used_all _ b U M hC (1 + (k : Int)) u HU).mono ?_); rintro e w0 ⟨rfl, hw0⟩; replace hw0 := hw0.symm; subst hw0))
          go_roundw
          case rel => exact ⟨k + 1, _, by omega, by go_num, hO.set_ (1 + k) _, HN, hX.far hox.symm _, hC.far hob.symm _, hB.setCell hzo _⟩
          case measure => simp [intOf]; omega
        · obtain rfl : k = 16 := by omega
          replace HO := Lib.hid HO.out.full
          have x0 : wr.cell? ⟨x, 0, none⟩ = some (.int .i64 K) := hX.cell 0
          have x1 : wr.cell? ⟨x, 1, none⟩ = some (.int .i64 X) := hX.cell 1
          have x2 : wr.cell? ⟨x, 2, none⟩ = some (.int .i64 N) := hX.cell 2
          have x3 : wr.cell? ⟨x, 3, none⟩ = some (.slice PA L pc) := hX.cell 3
          have HPR := Lib.hid ((HP.out.below hB).row hB.size)
          have hAb : Hid (0 < L → ∀ g off, PA = some ⟨g, off, none⟩ → g ≠ b) := Lib.hid (fun hp => HP.out.off (by rw [intsV_len, hL.out]; exact hp) hb)
          have hcase : Hid (K % 5 = 0) ∨ Hid (K % 5 = 1) ∨ Hid (K % 5 = 2) ∨ Hid (K % 5 = 3) ∨ Hid (K % 5 = 4) := by
            have : K % 5 = 0 ∨ K % 5 = 1 ∨ K % 5 = 2 ∨ K % 5 = 3 ∨ K % 5 = 4 := by omega
            rcases this with h | h | h | h | h
            · exact .inl (Lib.hid h)
            · exact .inr (.inl (Lib.hid h))
            · exact .inr (.inr (.inl (Lib.hid h)))
            · exact .inr (.inr (.inr (.inl (Lib.hid h))))
            · exact .inr (.inr (.inr (.inr (Lib.hid h))))
          clear hX
          rcases hcase with hK | hK | hK | hK | hK
          · obtain ⟨E, hE⟩ : ∃ x, Hid (askF [X] N = x) := ⟨_, Lib.hid rfl⟩
            obtain ⟨M', hM'⟩ : ∃ x, Hid (limM M X N = x) := ⟨_, Lib.hid rfl⟩
            have HF' : Hid (Fine U M') := Lib.hid (by rw [← hM'.out]; exact fine_limM HF.out X N)
            have H2 : Hid ((U : Nat → Int) = U) := Lib.hid (rfl)
            have H3 : Hid (Bnd U U M') := Lib.hid (Bnd.refl _ _)
            go_wp2_with (first | (go_at_call 9; (with_reducible refine (bring_any K 5 (by omega) (by omega) _).mono ?_); rintro e w0 ⟨rfl, hw0⟩; replace hw0 := hw0.symm; subst hw0; rw [hK.out]) | (go_at_call 10; (with_reducible refine (limit_all _ b U M hC X N E hE M' hM').mono ?_); rintro e w4 ⟨rfl, hN, hT⟩; replace hB := hT.below hB hb hB.size; replace hO := hO.one hT hob; clear hT hC; have hC := hN; clear hN))
            go_loopw [10, 11] (fun q _ wr => ∃ k : Nat, k ≤ 16 ∧ q = .int .i64 (1 + (k : Int)) ∧ wr = w4) (fun q _ _ => 17 - (intOf q).toNat)
            case atStart => exact ⟨0, by omega, by go_num, rfl⟩
            case round =>
              obtain ⟨k, hk, rfl, hww⟩ := hrel
              subst hww
              by_cases hk16 : k < 16
              · have k0 : (0 : Int) ≤ (k : Int) := by omega
                have k1 : 1 + (k : Int) < 17 := by omega
                obtain ⟨u, hu⟩ : ∃ u, U k = u := ⟨_, rfl⟩
                obtain ⟨v, hv⟩ : ∃ v, U k = v := ⟨_, rfl⟩
                obtain ⟨m, hm⟩ : ∃ m, M' k = m := ⟨_, rfl⟩
                have cO := hO.cell (1 + k)
                rw [HO.out.2 k hk16, hu] at cO
                have HV : Hid (getF U (1 + (k : Int)) = v) := Lib.hid (by rw [getF_at _ hk16, hv])
                have HM : Hid (getF M' (1 + (k : Int)) = m) := Lib.hid (by rw [getF_at _ hk16, hm])
                have hv0 : 0 ≤ v := by rw [← hv]; exact (HF'.out k hk16).1
                have h3 : u < v → v ≤ m := by rw [← hu, ← hv, ← hm]; exact H3.out k hk16
                by_cases hE0 : E = 0
                · have e1 : (E != 0) = false := by rw [hE0]; rfl
                  clear hE0
                  have hvu : v = u := by rw [← hu, ← hv]
                  clear hu hv hm h3
                  subst hvu
                  have t0 : (v != v) = false := by simp
                  have t1 : decide (v < v) = false := decide_eq_false (by omega)
                  have t2 : decide (v < 0) = false := decide_eq_false (by omega)
                  go_wp2_with (first | (go_at_call 14; (with_reducible refine (used_all _ b U M' hC (1 + (k : Int)) v HV).mono ?_); rintro e w0 ⟨rfl, hw0⟩; replace hw0 := hw0.symm; subst hw0) | (go_at_call 19; (with_reducible refine (most_all _ b U M' hC (1 + (k : Int)) m HM).mono ?_); rintro e w0 ⟨rfl, hw0⟩; replace hw0 := hw0.symm; subst hw0))
                  go_roundw
                  case rel => exact ⟨k + 1, by omega, by go_num, trivial⟩
                  case measure => simp [intOf]; omega
                · have e1 : (E != 0) = true := bne_iff_ne.2 hE0
                  have hvu : v = u := by rw [← hu, ← hv]
                  clear hu hv hm h3
                  subst hvu
                  have t0 : (v != v) = false := by simp
                  have t1 : decide (v < v) = false := decide_eq_false (by omega)
                  have t2 : decide (v < 0) = false := decide_eq_false (by omega)
                  go_wp2_with (first | (go_at_call 14; (with_reducible refine (used_all _ b U M' hC (1 + (k : Int)) v HV).mono ?_); rintro e w0 ⟨rfl, hw0⟩; replace hw0 := hw0.symm; subst hw0) | (go_at_call 19; (with_reducible refine (most_all _ b U M' hC (1 + (k : Int)) m HM).mono ?_); rintro e w0 ⟨rfl, hw0⟩; replace hw0 := hw0.symm; subst hw0))
                  go_roundw
                  case rel => exact ⟨k + 1, by omega, by go_num, trivial⟩
                  case measure => simp [intOf]; omega
              · have k1 : ¬ 1 + (k : Int) < 17 := by omega
                go_wp2
                go_roundw
                case rel => exact ⟨i + 1, U, M', by omega, by omega, by go_num, hC, HF', hB⟩
                case measure => simp [intOf]; omega
          · obtain ⟨E, hE⟩ : ∃ x, Hid (upE U M X N = x) := ⟨_, Lib.hid rfl⟩
            obtain ⟨U', hU'⟩ : ∃ x, Hid (upU U M X N = x) := ⟨_, Lib.hid rfl⟩
            have HF' : Hid (Fine U' M) := Lib.hid (by rw [← hU'.out]; exact fine_upU HF.out X N)
            have H2 : Hid (E ≠ 0 → U' = U) := Lib.hid (fun h => by rw [← hU'.out]; exact upU_err hE.out h)
            have H3 : Hid (Bnd U U' M) := Lib.hid (by rw [← hU'.out]; exact up_bnd U M X N)
            go_wp2_with (first | (go_at_call 9; (with_reducible refine (bring_any K 5 (by omega) (by omega) _).mono ?_); rintro e w0 ⟨rfl, hw0⟩; replace hw0 := hw0.symm; subst hw0; rw [hK.out]) | (go_at_call 21; (with_reducible refine (up_all _ b U M hC HF.out X N E hE U' hU').mono ?_); rintro e w4 ⟨rfl, hN, hT⟩; replace hB := hT.below hB hb hB.size; replace hO := hO.one hT hob; clear hT hC; have hC := hN; clear hN))
            go_loopw [10, 11] (fun q _ wr => ∃ k : Nat, k ≤ 16 ∧ q = .int .i64 (1 + (k : Int)) ∧ wr = w4) (fun q _ _ => 17 - (intOf q).toNat)
            case atStart => exact ⟨0, by omega, by go_num, rfl⟩
            case round =>
              obtain ⟨k, hk, rfl, hww⟩ := hrel
              subst hww
              by_cases hk16 : k < 16
              · have k0 : (0 : Int) ≤ (k : Int) := by omega
                have k1 : 1 + (k : Int) < 17 := by omega
                obtain ⟨u, hu⟩ : ∃ u, U k = u := ⟨_, rfl⟩
                obtain ⟨v, hv⟩ : ∃ v, U' k = v := ⟨_, rfl⟩
                obtain ⟨m, hm⟩ : ∃ m, M k = m := ⟨_, rfl⟩
                have cO := hO.cell (1 + k)
                rw [HO.out.2 k hk16, hu] at cO
                have HV : Hid (getF U' (1 + (k : Int)) = v) := Lib.hid (by rw [getF_at _ hk16, hv])
                have HM : Hid (getF M (1 + (k : Int)) = m) := Lib.hid (by rw [getF_at _ hk16, hm])
                have hv0 : 0 ≤ v := by rw [← hv]; exact (HF'.out k hk16).1
                have h3 : u < v → v ≤ m := by rw [← hu, ← hv, ← hm]; exact H3.out k hk16
                by_cases hE0 : E ≠ 0
                · have e1 : (E != 0) = true := bne_iff_ne.2 hE0
                  have hvu : v = u := by rw [← hu, ← hv, H2.out hE0]
                  clear hu hv hm h3
                  subst hvu
                  have t0 : (v != v) = false := by simp
                  have t1 : decide (v < v) = false := decide_eq_false (by omega)
                  have t2 : decide (v < 0) = false := decide_eq_false (by omega)
                  go_wp2_with (first | (go_at_call 14; (with_reducible refine (used_all _ b U' M hC (1 + (k : Int)) v HV).mono ?_); rintro e w0 ⟨rfl, hw0⟩; replace hw0 := hw0.symm; subst hw0) | (go_at_call 19; (with_reducible refine (most_all _ b U' M hC (1 + (k : Int)) m HM).mono ?_); rintro e w0 ⟨rfl, hw0⟩; replace hw0 := hw0.symm; subst hw0))
                  go_roundw
                  case rel => exact ⟨k + 1, by omega, by go_num, trivial⟩
                  case measure => simp [intOf]; omega
                · have e1 : (E != 0) = false := by rw [bne_eq_false_iff_eq]; omega
                  have t2 : decide (v < 0) = false := decide_eq_false (by omega)
                  clear hu hv hm
                  by_cases hlt : u < v
                  · have hmv := h3 hlt
                    have t1 : decide (u < v) = true := decide_eq_true hlt
                    have t3 : decide (m < v) = false := decide_eq_false (by omega)
                    clear h3
                    go_wp2_with (first | (go_at_call 14; (with_reducible refine (used_all _ b U' M hC (1 + (k : Int)) v HV).mono ?_); rintro e w0 ⟨rfl, hw0⟩; replace hw0 := hw0.symm; subst hw0) | (go_at_call 19; (with_reducible refine (most_all _ b U' M hC (1 + (k : Int)) m HM).mono ?_); rintro e w0 ⟨rfl, hw0⟩; replace hw0 := hw0.symm; subst hw0))
                    go_roundw
                    case rel => exact ⟨k + 1, by omega, by go_num, trivial⟩
                    case measure => simp [intOf]; omega
                  · have t1 : decide (u < v) = false := decide_eq_false hlt
                    clear h3
                    go_wp2_with (first | (go_at_call 14; (with_reducible refine (used_all _ b U' M hC (1 + (k : Int)) v HV).mono ?_); rintro e w0 ⟨rfl, hw0⟩; replace hw0 := hw0.symm; subst hw0) | (go_at_call 19; (with_reducible refine (most_all _ b U' M hC (1 + (k : Int)) m HM).mono ?_); rintro e w0 ⟨rfl, hw0⟩; replace hw0 := hw0.symm; subst hw0))
                    go_roundw
                    case rel => exact ⟨k + 1, by omega, by go_num, trivial⟩
                    case measure => simp [intOf]; omega
              · have k1 : ¬ 1 + (k : Int) < 17 := by omega
                go_wp2
                go_roundw
                case rel => exact ⟨i + 1, U', M, by omega, by omega, by go_num, hC, HF', hB⟩
                case measure => simp [intOf]; omega
          · obtain ⟨E, hE⟩ : ∃ x, Hid (dnE U X N = x) := ⟨_, Lib.hid rfl⟩
            obtain ⟨U', hU'⟩ : ∃ x, Hid (dnU U X N = x) := ⟨_, Lib.hid rfl⟩
            have HF' : Hid (Fine U' M) := Lib.hid (by rw [← hU'.out]; exact fine_dnU HF.out X N)
            have H2 : Hid (E ≠ 0 → U' = U) := Lib.hid (fun h => by rw [← hU'.out]; exact dnU_err hE.out h)
            have H3 : Hid (Bnd U U' M) := Lib.hid (by rw [← hU'.out]; exact dn_bnd U M X N)
            go_wp2_with (first | (go_at_call 9; (with_reducible refine (bring_any K 5 (by omega) (by omega) _).mono ?_); rintro e w0 ⟨rfl, hw0⟩; replace hw0 := hw0.symm; subst hw0; rw [hK.out]) | (go_at_call 22; (with_reducible refine (down_all _ b U M hC HF.out X N E hE U' hU').mono ?_); rintro e w4 ⟨rfl, hN, hT⟩; replace hB := hT.below hB hb hB.size; replace hO := hO.one hT hob; clear hT hC; have hC := hN; clear hN))
            go_loopw [10, 11] (fun q _ wr => ∃ k : Nat, k ≤ 16 ∧ q = .int .i64 (1 + (k : Int)) ∧ wr = w4) (fun q _ _ => 17 - (intOf q).toNat)
            case atStart => exact ⟨0, by omega, by go_num, rfl⟩
            case round =>
              obtain ⟨k, hk, rfl, hww⟩ := hrel
              subst hww
              by_cases hk16 : k < 16
              · have k0 : (0 : Int) ≤ (k : Int) := by omega
                have k1 : 1 + (k : Int) < 17 := by omega
                obtain ⟨u, hu⟩ : ∃ u, U k = u := ⟨_, rfl⟩
                obtain ⟨v, hv⟩ : ∃ v, U' k = v := ⟨_, rfl⟩
                obtain ⟨m, hm⟩ : ∃ m, M k = m := ⟨_, rfl⟩
                have cO := hO.cell (1 + k)
                rw [HO.out.2 k hk16, hu] at cO
                have HV : Hid (getF U' (1 + (k : Int)) = v) := Lib.hid (by rw [getF_at _ hk16, hv])
                have HM : Hid (getF M (1 + (k : Int)) = m) := Lib.hid (by rw [getF_at _ hk16, hm])
                have hv0 : 0 ≤ v := by rw [← hv]; exact (HF'.out k hk16).1
                have h3 : u < v → v ≤ m := by rw [← hu, ← hv, ← hm]; exact H3.out k hk16
                by_cases hE0 : E ≠ 0
                · have e1 : (E != 0) = true := bne_iff_ne.2 hE0
                  have hvu : v = u := by rw [← hu, ← hv, H2.out hE0]
                  clear hu hv hm h3
                  subst hvu
                  have t0 : (v != v) = false := by simp
                  have t1 : decide (v < v) = false := decide_eq_false (by omega)
                  have t2 : decide (v < 0) = false := decide_eq_false (by omega)
                  go_wp2_with (first | (go_at_call 14; (with_reducible refine (used_all _ b U' M hC (1 + (k : Int)) v HV).mono ?_); rintro e w0 ⟨rfl, hw0⟩; replace hw0 := hw0.symm; subst hw0) | (go_at_call 19; (with_reducible refine (most_all _ b U' M hC (1 + (k : Int)) m HM).mono ?_); rintro e w0 ⟨rfl, hw0⟩; replace hw0 := hw0.symm; subst hw0))
                  go_roundw
                  case rel => exact ⟨k + 1, by omega, by go_num, trivial⟩
                  case measure => simp [intOf]; omega
                · have e1 : (E != 0) = false := by rw [bne_eq_false_iff_eq]; omega
                  have t2 : decide (v < 0) = false := decide_eq_false (by omega)
                  clear hu hv hm
                  by_cases hlt : u < v
                  · have hmv := h3 hlt
                    have t1 : decide (u < v) = true := decide_eq_true hlt
                    have t3 : decide (m < v) = false := decide_eq_false (by omega)
                    clear h3
                    go_wp2_with (first | (go_at_call 14; (with_reducible refine (used_all _ b U' M hC (1 + (k : Int)) v HV).mono ?_); rintro e w0 ⟨rfl, hw0⟩; replace hw0 := hw0.symm; subst hw0) | (go_at_call 19; (with_reducible refine (most_all _ b U' M hC (1 + (k : Int)) m HM).mono ?_); rintro e w0 ⟨rfl, hw0⟩; replace hw0 := hw0.symm; subst hw0))
                    go_roundw
                    case rel => exact ⟨k + 1, by omega, by go_num, trivial⟩
                    case measure => simp [intOf]; omega
                  · have t1 : decide (u < v) = false := decide_eq_false hlt
                    clear h3
                    go_wp2_with (first | (go_at_call 14; (with_reducible refine (used_all _ b U' M hC (1 + (k : Int)) v HV).mono ?_); rintro e w0 ⟨rfl, hw0⟩; replace hw0 := hw0.symm; subst hw0) | (go_at_call 19; (with_reducible refine (most_all _ b U' M hC (1 + (k : Int)) m HM).mono ?_); rintro e w0 ⟨rfl, hw0⟩; replace hw0 := hw0.symm; subst hw0))
                    go_roundw
                    case rel => exact ⟨k + 1, by omega, by go_num, trivial⟩
                    case measure => simp [intOf]; omega
              · have k1 : ¬ 1 + (k : Int) < 17 := by omega
                go_wp2
                go_roundw
                case rel => exact ⟨i + 1, U', M, by omega, by omega, by go_num, hC, HF', hB⟩
                case measure => simp [intOf]; omega
          · obtain ⟨R, hR⟩ : ∃ x, Hid (tryA U M pp N = x) := ⟨_, Lib.hid rfl⟩
            obtain ⟨E, hE⟩ : ∃ x, Hid (tryE U M pp N = x) := ⟨_, Lib.hid rfl⟩
            obtain ⟨U', hU'⟩ : ∃ x, Hid (tryU U M pp N = x) := ⟨_, Lib.hid rfl⟩
            have HF' : Hid (Fine U' M) := Lib.hid (by rw [← hU'.out]; exact fine_tryU HF.out pp N)
            have H2 : Hid (E ≠ 0 → U' = U) := Lib.hid (fun h => by rw [← hU'.out]; exact tryU_err hE.out h)
            have H3 : Hid (Bnd U U' M) := Lib.hid (by rw [← hU'.out]; exact try_bnd U M pp N)
            go_wp2_with (first | (go_at_call 9; (with_reducible refine (bring_any K 5 (by omega) (by omega) _).mono ?_); rintro e w0 ⟨rfl, hw0⟩; replace hw0 := hw0.symm; subst hw0; rw [hK.out]) | (go_at_call 11; (with_reducible refine (try_all _ b U M hC HF.out pp L hL (by omega) N PA pc HPR.out hAb.out R E hR hE U' hU').mono ?_); rintro e w4 ⟨rfl, hN, hT⟩; replace hB := hT.below hB hb hB.size; replace hO := hO.one hT hob; clear hT hC; have hC := hN; clear hN))
            go_loopw [10, 11] (fun q _ wr => ∃ k : Nat, k ≤ 16 ∧ q = .int .i64 (1 + (k : Int)) ∧ wr = w4) (fun q _ _ => 17 - (intOf q).toNat)
            case atStart => exact ⟨0, by omega, by go_num, rfl⟩
            case round =>
              obtain ⟨k, hk, rfl, hww⟩ := hrel
              subst hww
              by_cases hk16 : k < 16
              · have k0 : (0 : Int) ≤ (k : Int) := by omega
                have k1 : 1 + (k : Int) < 17 := by omega
                obtain ⟨u, hu⟩ : ∃ u, U k = u := ⟨_, rfl⟩
                obtain ⟨v, hv⟩ : ∃ v, U' k = v := ⟨_, rfl⟩
                obtain ⟨m, hm⟩ : ∃ m, M k = m := ⟨_, rfl⟩
                have cO := hO.cell (1 + k)
                rw [HO.out.2 k hk16, hu] at cO
                have HV : Hid (getF U' (1 + (k : Int)) = v) := Lib.hid (by rw [getF_at _ hk16, hv])
                have HM : Hid (getF M (1 + (k : Int)) = m) := Lib.hid (by rw [getF_at _ hk16, hm])
                have hv0 : 0 ≤ v := by rw [← hv]; exact (HF'.out k hk16).1
                have h3 : u < v → v ≤ m := by rw [← hu, ← hv, ← hm]; exact H3.out k hk16
                by_cases hE0 : E ≠ 0
                · have e1 : (E != 0) = true := bne_iff_ne.2 hE0
                  have hvu : v = u := by rw [← hu, ← hv, H2.out hE0]
                  clear hu hv hm h3
                  subst hvu
                  have t0 : (v != v) = false := by simp
                  have t1 : decide (v < v) = false := decide_eq_false (by omega)
                  have t2 : decide (v < 0) = false := decide_eq_false (by omega)
                  go_wp2_with (first | (go_at_call 14; (with_reducible refine (used_all _ b U' M hC (1 + (k : Int)) v HV).mono ?_); rintro e w0 ⟨rfl, hw0⟩; replace hw0 := hw0.symm; subst hw0) | (go_at_call 19; (with_reducible refine (most_all _ b U' M hC (1 + (k : Int)) m HM).mono ?_); rintro e w0 ⟨rfl, hw0⟩; replace hw0 := hw0.symm; subst hw0))
                  go_roundw
                  case rel => exact ⟨k + 1, by omega, by go_num, trivial⟩
                  case measure => simp [intOf]; omega
                · have e1 : (E != 0) = false := by rw [bne_eq_false_iff_eq]; omega
                  have t2 : decide (v < 0) = false := decide_eq_false (by omega)
                  clear hu hv hm
                  by_cases hlt : u < v
                  · have hmv := h3 hlt
                    have t1 : decide (u < v) = true := decide_eq_true hlt
                    have t3 : decide (m < v) = false := decide_eq_false (by omega)
                    clear h3
                    go_wp2_with (first | (go_at_call 14; (with_reducible refine (used_all _ b U' M hC (1 + (k : Int)) v HV).mono ?_); rintro e w0 ⟨rfl, hw0⟩; replace hw0 := hw0.symm; subst hw0) | (go_at_call 19; (with_reducible refine (most_all _ b U' M hC (1 + (k : Int)) m HM).mono ?_); rintro e w0 ⟨rfl, hw0⟩; replace hw0 := hw0.symm; subst hw0))
                    go_roundw
                    case rel => exact ⟨k + 1, by omega, by go_num, trivial⟩
                    case measure => simp [intOf]; omega
                  · have t1 : decide (u < v) = false := decide_eq_false hlt
                    clear h3
                    go_wp2_with (first | (go_at_call 14; (with_reducible refine (used_all _ b U' M hC (1 + (k : Int)) v HV).mono ?_); rintro e w0 ⟨rfl, hw0⟩; replace hw0 := hw0.symm; subst hw0) | (go_at_call 19; (with_reducible refine (most_all _ b U' M hC (1 + (k : Int)) m HM).mono ?_); rintro e w0 ⟨rfl, hw0⟩; replace hw0 := hw0.symm; subst hw0))
                    go_roundw
                    case rel => exact ⟨k + 1, by omega, by go_num, trivial⟩
                    case measure => simp [intOf]; omega
              · have k1 : ¬ 1 + (k : Int) < 17 := by omega
                go_wp2
                go_roundw
                case rel => exact ⟨i + 1, U', M, by omega, by omega, by go_num, hC, HF', hB⟩
                case measure => simp [intOf]; omega
          · obtain ⟨E, hE⟩ : ∃ x, Hid (backE U pp N = x) := ⟨_, Lib.hid rfl⟩
            obtain ⟨U', hU'⟩ : ∃ x, Hid (backU U pp N = x) := ⟨_, Lib.hid rfl⟩
            have HF' : Hid (Fine U' M) := Lib.hid (by rw [← hU'.out]; exact fine_backU HF.out pp N)
            have H2 : Hid (E ≠ 0 → U' = U) := Lib.hid (fun h => by rw [← hU'.out]; exact backU_err hE.out h)
            have H3 : Hid (Bnd U U' M) := Lib.hid (by rw [← hU'.out]; exact back_bnd U M pp N)
            go_wp2_with (first | (go_at_call 9; (with_reducible refine (bring_any K 5 (by omega) (by omega) _).mono ?_); rintro e w0 ⟨rfl, hw0⟩; replace hw0 := hw0.symm; subst hw0; rw [hK.out]) | (go_at_call 13; (with_reducible refine (back_all _ b U M hC HF.out pp L hL (by omega) N PA pc HPR.out hAb.out E hE U' hU').mono ?_); rintro e w4 ⟨rfl, hN, hT⟩; replace hB := hT.below hB hb hB.size; replace hO := hO.one hT hob; clear hT hC; have hC := hN; clear hN))
            go_loopw [10, 11] (fun q _ wr => ∃ k : Nat, k ≤ 16 ∧ q = .int .i64 (1 + (k : Int)) ∧ wr = w4) (fun q _ _ => 17 - (intOf q).toNat)
            case atStart => exact ⟨0, by omega, by go_num, rfl⟩
            case round =>
              obtain ⟨k, hk, rfl, hww⟩ := hrel
              subst hww
              by_cases hk16 : k < 16
              · have k0 : (0 : Int) ≤ (k : Int) := by omega
                have k1 : 1 + (k : Int) < 17 := by omega
                obtain ⟨u, hu⟩ : ∃ u, U k = u := ⟨_, rfl⟩
                obtain ⟨v, hv⟩ : ∃ v, U' k = v := ⟨_, rfl⟩
                obtain ⟨m, hm⟩ : ∃ m, M k = m := ⟨_, rfl⟩
                have cO := hO.cell (1 + k)
                rw [HO.out.2 k hk16, hu] at cO
                have HV : Hid (getF U' (1 + (k : Int)) = v) := Lib.hid (by rw [getF_at _ hk16, hv])
                have HM : Hid (getF M (1 + (k : Int)) = m) := Lib.hid (by rw [getF_at _ hk16, hm])
                have hv0 : 0 ≤ v := by rw [← hv]; exact (HF'.out k hk16).1
                have h3 : u < v → v ≤ m := by rw [← hu, ← hv, ← hm]; exact H3.out k hk16
                by_cases hE0 : E ≠ 0
                · have e1 : (E != 0) = true := bne_iff_ne.2 hE0
                  have hvu : v = u := by rw [← hu, ← hv, H2.out hE0]
                  clear hu hv hm h3
                  subst hvu
                  have t0 : (v != v) = false := by simp
                  have t1 : decide (v < v) = false := decide_eq_false (by omega)
                  have t2 : decide (v < 0) = false := decide_eq_false (by omega)
                  go_wp2_with (first | (go_at_call 14; (with_reducible refine (used_all _ b U' M hC (1 + (k : Int)) v HV).mono ?_); rintro e w0 ⟨rfl, hw0⟩; replace hw0 := hw0.symm; subst hw0) | (go_at_call 19; (with_reducible refine (most_all _ b U' M hC (1 + (k : Int)) m HM).mono ?_); rintro e w0 ⟨rfl, hw0⟩; replace hw0 := hw0.symm; subst hw0))
                  go_roundw
                  case rel => exact ⟨k + 1, by omega, by go_num, trivial⟩
                  case measure => simp [intOf]; omega
                · have e1 : (E != 0) = false := by rw [bne_eq_false_iff_eq]; omega
                  have t2 : decide (v < 0) = false := decide_eq_false (by omega)
                  clear hu hv hm
                  by_cases hlt : u < v
                  · have hmv := h3 hlt
                    have t1 : decide (u < v) = true := decide_eq_true hlt
                    have t3 : decide (m < v) = false := decide_eq_false (by omega)
                    clear h3
                    go_wp2_with (first | (go_at_call 14; (with_reducible refine (used_all _ b U' M hC (1 + (k : Int)) v HV).mono ?_); rintro e w0 ⟨rfl, hw0⟩; replace hw0 := hw0.symm; subst hw0) | (go_at_call 19; (with_reducible refine (most_all _ b U' M hC (1 + (k : Int)) m HM).mono ?_); rintro e w0 ⟨rfl, hw0⟩; replace hw0 := hw0.symm; subst hw0))
                    go_roundw
                    case rel => exact ⟨k + 1, by omega, by go_num, trivial⟩
                    case measure => simp [intOf]; omega
                  · have t1 : decide (u < v) = false := decide_eq_false hlt
                    clear h3
                    go_wp2_with (first | (go_at_call 14; (with_reducible refine (used_all _ b U' M hC (1 + (k : Int)) v HV).mono ?_); rintro e w0 ⟨rfl, hw0⟩; replace hw0 := hw0.symm; subst hw0) | (go_at_call 19; (with_reducible refine (most_all _ b U' M hC (1 + (k : Int)) m HM).mono ?_); rintro e w0 ⟨rfl, hw0⟩; replace hw0 := hw0.symm; subst hw0))
                    go_roundw
                    case rel => exact ⟨k + 1, by omega, by go_num, trivial⟩
                    case measure => simp [intOf]; omega
              · have k1 : ¬ 1 + (k : Int) < 17 := by omega
                go_wp2
                go_roundw
                case rel => exact ⟨i + 1, U', M, by omega, by omega, by go_num, hC, HF', hB⟩
                case measure => simp [intOf]; omega
    all_goals
      go_wp2
      go_ret
      exact ⟨rfl, hB⟩

end Go.Proofs.Ytnbeofbkfopehaa
