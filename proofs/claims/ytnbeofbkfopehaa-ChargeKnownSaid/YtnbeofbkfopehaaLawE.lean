/-
  The walk of ChargeBack: Try and Back of the same change nothing.
-/
import Derived.Test.YtnbeofbkfopehaaLawD
import Derived.Deep.RegionHeld3
import Derived.WalkKit
import Derived.Deep.DeepMust
import Derived.WalkSpells
import Derived.WalkLawsBesides
import Derived.Handy
import Derived.Lib.Hide
import Derived.Deep.QuietTactic
import Derived.BigQuiet
namespace Go.Proofs.Ytnbeofbkfopehaa
open Go.RowKit

theorem path_k {h : Nat} (hh : h < 16) {j : Nat} (hj : j < (pathL h).length) : ∃ k : Nat, k < 16 ∧ (pathL h)[j] = (k : Int) + 1 := by
  have hg : allG (pathL h) = true := path_allG ⟨h, hh⟩
  obtain ⟨h1, h2⟩ := allG_at hg hj
  exact ⟨((pathL h)[j] - 1).toNat, by omega, by omega⟩
theorem full_at {U M : Nat → Int} {n : Int} : ∀ {xs : List Int}, allG xs = true → fullF U M n xs ≠ 0 → ∃ k : Nat, k < 16 ∧ fullF U M n xs = (k : Int) + 1 ∧ M k - U k < n
  | [], _, h => absurd rfl h
  | x :: r, hg, h => by
    have hx := allG_at hg (k := 0) (by simp)
    simp only [List.getElem_cons_zero] at hx
    have hgr : allG r = true := by
      unfold allG at hg ⊢
      rw [List.all_cons, Bool.and_eq_true] at hg
      exact hg.2
    have e : fullF U M n (x :: r) = bif decide (n ≤ M (x - 1).toNat - U (x - 1).toNat) then fullF U M n r else x := rfl
    by_cases hq : n ≤ M (x - 1).toNat - U (x - 1).toNat
    · rw [e, decide_eq_true hq] at h ⊢
      exact full_at hgr h
    · rw [e, decide_eq_false hq]
      exact ⟨(x - 1).toNat, by omega, by show x = _; omega, by omega⟩
theorem addP_back (U : Nat → Int) (xs : List Int) (n : Int) : addP (addP U xs n) xs (-n) = U := by
  funext k
  unfold addP
  by_cases h : ((k : Int) + 1) ∈ xs
  · rw [if_pos h, if_pos h]; omega
  · rw [if_neg h, if_neg h]
theorem addP_low {U M : Nat → Int} (hF : Fine U M) {xs : List Int} (hg : allG xs = true) (n : Int) : lowB (addP U xs n) n xs = true := by
  unfold lowB
  rw [List.all_eq_true]
  intro x hx
  have h := List.all_eq_true.1 hg x hx
  rw [grpB_iff] at h
  rw [decide_eq_true_eq]
  unfold addP
  rw [if_pos (by rw [show (((x - 1).toNat : Nat) : Int) + 1 = x by omega]; exact hx)]
  have := (hF (x - 1).toNat (by omega)).1
  omega

theorem getF_at' (U : Nat → Int) {k : Nat} (hk : k < 16) : getF U ((k : Int) + 1) = U k := by
  rw [Int.add_comm]
  exact getF_at U hk
theorem bring_eq (i n v : Int) (hn : 1 ≤ n) (hn' : n ≤ 4611686018427387904) (h : i % n = v) (w : World) : Calls Try.prog 9 #[.int .i64 i, .int .i64 n] w fun e w' => e = .returned (.int .i64 v) ∧ w' = w := by
  subst h
  exact bring_any i n hn hn' w

set_option maxRecDepth 100000 in
set_option maxHeartbeats 16000000 in
theorem cback_any (l : Nat) (A : Option Addr) (c : Nat) (D : Nat → DoR) (G Nn : Int) (W : World) (hX : Dos W A l D) : Calls Try.prog 6 #[.slice A l c, .int .i64 G, .int .i64 Nn] W fun e w' => e = .returned (.bool true) ∧ Below W.heap.size W w' := by
  go_enter Try.func6, Try.ntmps6
  have HX := Lib.hid hX
  clear hX
  go_wp2_with (first | (go_at_call 8; (with_reducible refine (new_any _).mono ?_); rintro r w1 ⟨b, rfl, hC, hb, hB⟩))
  go_loopw [8] (fun q wr => ∃ (i : Nat) (U M : Nat → Int), i ≤ l ∧ i ≤ 50 ∧ q = .int .i64 i ∧ ChAt wr b U M ∧ Hid (Fine U M) ∧ Below W.heap.size W wr) (fun q _ => 50 - (intOf q).toNat)
  case atStart => exact ⟨0, zeroU, mostU, by omega, by omega, rfl, hC, Lib.hid fine_new, hB⟩
  case round =>
    clear hC hB
    obtain ⟨i, U, M, hil, hi1, rfl, hC, HF, hB⟩ := hrel
    have hz := hB.size
    have hthree : (i < l ∧ i < 50) ∨ ¬ i < l ∨ (i < l ∧ ¬ i < 50) := by omega
    rcases hthree with ⟨hlt, h100⟩ | hlt | ⟨hlt, h100⟩
    · obtain ⟨g0, off, hA0, hg0, hc⟩ := HX.out (by omega)
      subst hA0
      obtain ⟨e0, e1, e2, -, -, -⟩ := hc i hlt
      obtain ⟨kk, hkk⟩ : ∃ x, (D i).k = x := ⟨_, rfl⟩
      obtain ⟨x, hx⟩ : ∃ x, (D i).x = x := ⟨_, rfl⟩
      obtain ⟨n, hn⟩ : ∃ x, (D i).n = x := ⟨_, rfl⟩
      rw [hkk] at e0
      rw [hx] at e1
      rw [hn] at e2
      have E1 := Lib.hid e1
      have E2 := Lib.hid e2
      have c0 := (hB.cell (p := ⟨g0, _, none⟩) hg0).trans e0
      have c1 := (hB.cell (p := ⟨g0, _, none⟩) hg0).trans e1
      have c2 := (hB.cell (p := ⟨g0, _, none⟩) hg0).trans e2
      clear e0 e1 e2 hkk hx hn hc
      obtain ⟨h, Hx⟩ : ∃ h : Nat, Hid (x % 16 = (h : Int)) := ⟨(x % 16).toNat, Lib.hid (by omega)⟩
      have hh : h < 16 := by have := Hx.out; omega
      obtain ⟨y, Hn⟩ : ∃ y, Hid (n % 2000 = y) := ⟨_, Lib.hid rfl⟩
      obtain ⟨z, Hz⟩ : ∃ y, Hid (n % 300 = y) := ⟨_, Lib.hid rfl⟩
      obtain ⟨Ln, HLn⟩ : ∃ Ln, Hid ((pathL h).length = Ln) := ⟨_, Lib.hid rfl⟩
      have hL5 : Ln ≤ 5 := by rw [← HLn.out]; exact pathF_len 5 (h + 1)
      have i0 : (0 : Int) ≤ (i : Int) := by omega
      have i1 : (i : Int) < (l : Int) := by omega
      have i2 : (i : Int) < 50 := by omega
      have hbl := hC.lt
      have hcase : Hid (kk % 2 = 0) ∨ Hid (kk % 2 = 1) := by
        have : kk % 2 = 0 ∨ kk % 2 = 1 := by omega
        rcases this with h | h
        · exact .inl (Lib.hid h)
        · exact .inr (Lib.hid h)
      rcases hcase with Hk | Hk
      · have hwr : IntKind.i64.wrap (1 + (h : Int)) = 1 + (h : Int) := IntWalk.i64_in _ (by omega)
        go_wp2_with (first | (go_at_call 9; (with_reducible refine (bring_any kk 2 (by omega) (by omega) _).mono ?_); rintro e w0 ⟨rfl, hw0⟩; replace hw0 := hw0.symm; subst hw0; rw [Hk.out]))
        obtain ⟨E, hE⟩ : ∃ E, Hid (askF [1 + (h : Int)] y = E) := ⟨_, Lib.hid rfl⟩
        obtain ⟨M', hM'⟩ : ∃ M', Hid (limM M (1 + (h : Int)) y = M') := ⟨_, Lib.hid rfl⟩
        have HF' : Hid (Fine U M') := Lib.hid (by rw [← hM'.out]; exact fine_limM HF.out _ _)
        have hC := hC.drew
        have hB := hB.drew
        have d1 := cell_drew c1
        have d2 := cell_drew c2
        go_region_held3 (fun w' => w'.cell? ⟨g0, off + i * 4 + 1, none⟩ = some (.int .i64 x) ∧ w'.cell? ⟨g0, off + i * 4 + 2, none⟩ = some (.int .i64 n)) (exact ⟨by assumption, by assumption⟩) (first | (go_at_call 9; (with_reducible refine (bring_any x 16 (by omega) (by omega) _).mono ?_); rintro e w0 ⟨rfl, hw0⟩; replace hw0 := hw0.symm; subst hw0; rw [Hx.out]) | (go_at_call 9; (with_reducible refine (bring_any n 2000 (by omega) (by omega) _).mono ?_); rintro e w0 ⟨rfl, hw0⟩; replace hw0 := hw0.symm; subst hw0; rw [Hn.out]) | (go_at_call 10; (with_reducible refine (limit_all _ b U M hC (1 + (h : Int)) y E hE M' hM').mono ?_); rintro e w4 ⟨rfl, hN, hT⟩; replace hB := hT.below hB hb hB.size; clear hT hC; have hC := hN; clear hN; have y1 := (hB.cell (p := ⟨g0, _, none⟩) hg0).trans E1.out; have y2 := (hB.cell (p := ⟨g0, _, none⟩) hg0).trans E2.out))
        all_goals
          clear hwr
          go_wp2
          go_roundw
          case rel => exact ⟨i + 1, U, M', by omega, by omega, by go_num, hC, HF', hB⟩
          case measure => simp [intOf]; omega
      · go_wp2_with (first | (go_at_call 9; (with_reducible refine (bring_any kk 2 (by omega) (by omega) _).mono ?_); rintro e w0 ⟨rfl, hw0⟩; replace hw0 := hw0.symm; subst hw0; rw [Hk.out]))
        obtain ⟨R, hR⟩ : ∃ R, Hid (tryA U M (pathL h) z = R) := ⟨_, Lib.hid rfl⟩
        obtain ⟨E, hE⟩ : ∃ E, Hid (tryE U M (pathL h) z = E) := ⟨_, Lib.hid rfl⟩
        obtain ⟨U', hU'⟩ : ∃ U', Hid (tryU U M (pathL h) z = U') := ⟨_, Lib.hid rfl⟩
        have HF' : Hid (Fine U' M) := Lib.hid (by rw [← hU'.out]; exact fine_tryU HF.out _ _)
        have hC := hC.drew
        have hB := hB.drew
        have d1 := cell_drew c1
        have d2 := cell_drew c2
        go_region_held3 (fun w' => w'.cell? ⟨g0, off + i * 4 + 1, none⟩ = some (.int .i64 x) ∧ w'.cell? ⟨g0, off + i * 4 + 2, none⟩ = some (.int .i64 n)) (exact ⟨by assumption, by assumption⟩) (first | (go_at_call 9; (with_reducible refine (bring_any n 300 (by omega) (by omega) _).mono ?_); rintro e w0 ⟨rfl, hw0⟩; replace hw0 := hw0.symm; subst hw0; rw [Hz.out]) | (go_at_call 12; (with_reducible refine (path_any x h hh Hx Ln HLn _).mono ?_); rintro e wp ⟨vp, rfl, hop, hbp⟩; obtain ⟨Ap, cp, rfl, hrp, hap⟩ := Row.slice2 hop; clear hop; have HAp : Hid (0 < Ln → ∀ g off, Ap = some ⟨g, off, none⟩ → g ≠ b) := Lib.hid (fun _ g off e => by have := hap g off e; simp only [World.size_drew] at this; omega); clear hap; replace hC := hC.below hbp; replace hB := hB.trans (hbp.mono hB.size); have y1 := (hB.cell (p := ⟨g0, _, none⟩) hg0).trans E1.out; have y2 := (hB.cell (p := ⟨g0, _, none⟩) hg0).trans E2.out) | (go_at_call 11; (with_reducible refine (try_all _ b U M hC HF.out (pathL h) Ln HLn (by omega) z Ap cp hrp HAp.out R E hR hE U' hU').mono ?_); rintro e w4 ⟨rfl, hN, hT⟩; replace hB := hT.below hB hb hB.size; clear hT hC; have hC := hN; clear hN; have z1 := (hB.cell (p := ⟨g0, _, none⟩) hg0).trans E1.out; have z2 := (hB.cell (p := ⟨g0, _, none⟩) hg0).trans E2.out))
        all_goals
          go_wp2
          go_roundw
          case rel => exact ⟨i + 1, U', M, by omega, by omega, by go_num, hC, HF', hB⟩
          case measure => simp [intOf]; omega
    all_goals
      have hbl := hC.lt
      obtain ⟨wo, hwo⟩ : ∃ wo : World, wo = wr := ⟨_, rfl⟩
      subst hwo
      go_wp2
      have hO := Blk.new wo 25 #[.int .i64 0, .int .i64 0, .int .i64 0, .int .i64 0, .int .i64 0, .int .i64 0, .int .i64 0, .int .i64 0, .int .i64 0, .int .i64 0, .int .i64 0, .int .i64 0, .int .i64 0, .int .i64 0, .int .i64 0, .int .i64 0, .int .i64 0]
      have hC := hC.alloc (.cells #[.int .i64 0, .int .i64 0, .int .i64 0, .int .i64 0, .int .i64 0, .int .i64 0, .int .i64 0, .int .i64 0, .int .i64 0, .int .i64 0, .int .i64 0, .int .i64 0, .int .i64 0, .int .i64 0, .int .i64 0, .int .i64 0, .int .i64 0] 25)
      have hB := hB.alloc hz (.cells #[.int .i64 0, .int .i64 0, .int .i64 0, .int .i64 0, .int .i64 0, .int .i64 0, .int .i64 0, .int .i64 0, .int .i64 0, .int .i64 0, .int .i64 0, .int .i64 0, .int .i64 0, .int .i64 0, .int .i64 0, .int .i64 0, .int .i64 0] 25)
      obtain ⟨w2, hw2⟩ : ∃ w2 : World, w2 = wo.alloc (.cells #[.int .i64 0, .int .i64 0, .int .i64 0, .int .i64 0, .int .i64 0, .int .i64 0, .int .i64 0, .int .i64 0, .int .i64 0, .int .i64 0, .int .i64 0, .int .i64 0, .int .i64 0, .int .i64 0, .int .i64 0, .int .i64 0, .int .i64 0] 25) := ⟨_, rfl⟩
      rw [← hw2] at hO hC hB ⊢
      clear hw2
      obtain ⟨o, ho⟩ : ∃ o, wo.heap.size = o := ⟨_, rfl⟩
      rw [ho] at hO hz hbl ⊢
      have hob : o ≠ b := by omega
      clear ho
      go_loopw [10] (fun q wr => ∃ (k : Nat) (cs : Array Value), k ≤ 16 ∧ q = .int .i64 (1 + (k : Int)) ∧ Blk wr o 25 cs ∧ Hid (OwnC cs (cutU U k)) ∧ ChAt wr b U M ∧ Below W.heap.size W wr) (fun q _ => 17 - (intOf q).toNat)
      case atStart => exact ⟨0, _, by omega, by go_num, hO, Lib.hid (by rw [cutU_zero]; exact OwnC.zero), hC, hB⟩
      case round =>
        clear hO hC hB
        obtain ⟨k, cs, hk, rfl, hO, HO, hC, hB⟩ := hrel
        by_cases hk16 : k < 16
        · have k0 : (0 : Int) ≤ (k : Int) := by omega
          have k1 : 1 + (k : Int) < 17 := by omega
          obtain ⟨u, hu⟩ : ∃ u, U k = u := ⟨_, rfl⟩
          have HU : Hid (getF U (1 + (k : Int)) = u) := Lib.hid (by rw [getF_at _ hk16, hu])
          have cO := hO.cell (1 + k)
          rw [HO.out.2 k hk16] at cO
          obtain ⟨z, hz2⟩ : ∃ z, cutU U k k = z := ⟨_, rfl⟩
          rw [hz2] at cO
          have fO := hO.frozen (1 + k)
          have HN := Lib.hid (HO.out.set hk16 u)
          rw [← hu, cutU_next, hu] at HN
          have hol := hO.lt
          clear hu hz2
          go_wp2_with (first | (go_at_call 14; (with_reducible refine (used_all _ b U M hC (1 + (k : Int)) u HU).mono ?_); rintro e w0 ⟨rfl, hw0⟩; replace hw0 := hw0.symm; subst hw0))
          go_roundw
          case rel => exact ⟨k + 1, _, by omega, by go_num, hO.set_ (1 + k) _, HN, hC.far hob.symm _, hB.setCell hz _⟩
          case measure => simp [intOf]; omega
        · obtain rfl : k = 16 := by omega
          replace HO := Lib.hid HO.out.full
          obtain ⟨h, Hg⟩ : ∃ h : Nat, Hid (G % 16 = (h : Int)) := ⟨(G % 16).toNat, Lib.hid (by omega)⟩
          have hh : h < 16 := by have := Hg.out; omega
          obtain ⟨y, Hn⟩ : ∃ y, Hid (Nn % 1000 = y) := ⟨_, Lib.hid rfl⟩
          have y0 : 0 ≤ y := by have := Hn.out; omega
          have y1 : y < 1000 := by have := Hn.out; omega
          obtain ⟨Ln, HLn⟩ : ∃ Ln, Hid ((pathL h).length = Ln) := ⟨_, Lib.hid rfl⟩
          have hL5 : Ln ≤ 5 := by rw [← HLn.out]; exact pathF_len 5 (h + 1)
          have HAsk : Hid (askF (pathL h) y = 0) := Lib.hid (path_ask hh y0 (by omega))
          obtain ⟨q, HFu⟩ : ∃ q, Hid (fullF U M y (pathL h) = q) := ⟨_, Lib.hid rfl⟩
          by_cases hq : q = 0
          · subst hq
            have HFN := Lib.hid (HF.out.try HAsk.out HFu.out)
            have HLow : Hid (lowB (addP U (pathL h) y) y (pathL h) = true) := Lib.hid (addP_low HF.out (askF_zero.1 HAsk.out).1 y)
            go_wp2_with (first | (go_at_call 9; (with_reducible refine (bring_any Nn 1000 (by omega) (by omega) _).mono ?_); rintro e w0 ⟨rfl, hw0⟩; replace hw0 := hw0.symm; subst hw0; rw [Hn.out]) | (go_at_call 12; (with_reducible refine (path_any G h hh Hg Ln HLn _).mono ?_); rintro e wp ⟨vp, rfl, hop, hbp⟩; obtain ⟨Ap, cp, rfl, hrp, hap⟩ := Row.slice2 hop; clear hop; have hbl2 := hC.lt; have HAp : Hid (∀ g off, Ap = some ⟨g, off, none⟩ → g ≠ b) := Lib.hid (fun g off e => by have := hap g off e; omega); clear hap; replace hC := hC.below hbp; replace hO := hO.below hbp; replace hB := hB.trans (hbp.mono hB.size)) | (go_at_call 11; (with_reducible refine (try_y _ b U M hC HF.out (pathL h) Ln HLn y Ap cp hrp HAp.out HAsk HFu).mono ?_); rintro e w3 ⟨rfl, hN, hT⟩; replace hB := hT.below hB hb hB.size; replace hO := hO.one hT hob; replace hrp := hrp.one hT (fun _ => HAp.out); clear hT hC; have hC := hN; clear hN))
            obtain ⟨gp, op, rfl, hgp, -⟩ := hrp (by rw [intsV_len]; exact path_len1 ⟨h, hh⟩)
            have HRow := Lib.hid hrp
            clear hrp
            go_loopw [14] (fun q wr => ∃ j : Nat, j ≤ Ln ∧ q = .int .i64 j ∧ ChAt wr b (addP U (pathL h) y) M ∧ Blk wr o 25 cs ∧ Hid (Row wr (some ⟨gp, op, none⟩) (intsV (pathL h))) ∧ Below W.heap.size W wr) (fun q _ => Ln - (intOf q).toNat)
            case atStart => exact ⟨0, by omega, rfl, hC, hO, HRow, hB⟩
            case round =>
              clear hC hO HRow hB
              obtain ⟨j, hj, rfl, hC, hO, HRow, hB⟩ := hrel
              by_cases hjl : j < Ln
              · have hjL : j < (pathL h).length := by rw [HLn.out]; exact hjl
                obtain ⟨k, hk16, hxk⟩ := path_k hh hjL
                obtain ⟨g1, o1, e1, hg1, hc1⟩ := HRow.out (by rw [intsV_len]; omega)
                simp only [Option.some.injEq, Addr.mk.injEq] at e1
                obtain ⟨rfl, rfl, -⟩ := e1
                have cK := hc1 j _ (intsV_at hjL)
                clear hc1
                rw [hxk] at cK
                obtain ⟨u, hu⟩ : ∃ u, U k = u := ⟨_, rfl⟩
                have HV : Hid (getF (addP U (pathL h) y) ((k : Int) + 1) = u + y) := Lib.hid (by
                  rw [getF_at' _ hk16]
                  unfold addP
                  rw [if_pos (by rw [← hxk]; exact List.getElem_mem hjL), hu])
                have cO := hO.cell (1 + k)
                rw [HO.out.2 k hk16, hu, Nat.add_comm] at cO
                obtain ⟨u0, u1, -, -⟩ := HF.out k hk16
                rw [hu] at u0 u1
                have j0 : (0 : Int) ≤ (j : Int) := by omega
                have j1 : (j : Int) < (Ln : Int) := by omega
                have k0 : (0 : Int) ≤ (k : Int) + 1 := by omega
                have k1 : (k : Int) + 1 < 17 := by omega
                have k3 : ((k : Int) + 1).toNat = k + 1 := by omega
                have hwr : IntKind.i64.wrap (u + y) = u + y := IntWalk.i64_in _ (by omega)
                have t0 : (u + y != u + y) = false := by simp
                clear hu hxk hjL
                go_wp2
                go_quiet ((go_at_call 14; exact Calls.quiet_of_same (used_all _ b (addP U (pathL h) y) M (hC.drewN _) ((k : Int) + 1) (u + y) HV)))
                go_wp2
                go_roundw
                case rel => exact ⟨j + 1, by omega, by go_num, hC.drewN _, hO.drewN _, Lib.hid (HRow.out.drewN _), below_drewN hB _⟩
                case measure => simp [intOf]; omega
              · skip
                go_wp2_with (first | (go_at_call 13; (with_reducible refine (back_y _ b (addP U (pathL h) y) M hC HFN.out (pathL h) Ln HLn y (some ⟨gp, op, none⟩) cp HRow.out (HAp.out) HAsk HLow).mono ?_); rintro e wz ⟨rfl, hN, hT⟩; replace hB := hT.below hB hb hB.size; replace hO := hO.one hT hob; clear hT hC; have hC := hN; clear hN; rw [addP_back] at hC))
                go_loopw [15] (fun q wr => ∃ k : Nat, k ≤ 16 ∧ q = .int .i64 (1 + (k : Int)) ∧ ChAt wr b U M ∧ Blk wr o 25 cs ∧ Below W.heap.size W wr) (fun q _ => 17 - (intOf q).toNat)
                case atStart => exact ⟨0, by omega, by go_num, hC, hO, hB⟩
                case round =>
                  clear hC hO hB
                  obtain ⟨k, hk, rfl, hC, hO, hB⟩ := hrel
                  by_cases hk16 : k < 16
                  · have k0 : (0 : Int) ≤ 1 + (k : Int) := by omega
                    have k1 : 1 + (k : Int) < 17 := by omega
                    obtain ⟨u, hu⟩ : ∃ u, U k = u := ⟨_, rfl⟩
                    have HU : Hid (getF U (1 + (k : Int)) = u) := Lib.hid (by rw [getF_at _ hk16, hu])
                    have cO := hO.cell (1 + k)
                    rw [HO.out.2 k hk16, hu] at cO
                    have t0 : (u != u) = false := by simp
                    clear hu
                    go_wp2
                    go_quiet ((go_at_call 14; exact Calls.quiet_of_same (used_all _ b U M (hC.drewN _) (1 + (k : Int)) u HU)))
                    go_wp2
                    go_roundw
                    case rel => exact ⟨k + 1, by omega, by go_num, hC.drewN _, hO.drewN _, below_drewN hB _⟩
                    case measure => simp [intOf]; omega
                  · have k1 : ¬ 1 + (k : Int) < 17 := by omega
                    have hzz := hB.size
                    go_wp2_with (first | (go_at_call 15; (with_reducible refine (works_any _).mono ?_); rintro e w6 ⟨rfl, hb6⟩))
                    go_ret
                    exact ⟨rfl, hB.trans (hb6.mono hzz)⟩
          · have hq' : (q == 0) = false := beq_eq_false_iff_ne.2 hq
            obtain ⟨k, hk16, hqk, hMk⟩ := full_at (askF_zero.1 HAsk.out).1 (by rw [HFu.out]; exact hq)
            rw [HFu.out] at hqk
            subst hqk
            go_wp2_with (first | (go_at_call 9; (with_reducible refine (bring_any Nn 1000 (by omega) (by omega) _).mono ?_); rintro e w0 ⟨rfl, hw0⟩; replace hw0 := hw0.symm; subst hw0; rw [Hn.out]) | (go_at_call 12; (with_reducible refine (path_any G h hh Hg Ln HLn _).mono ?_); rintro e wp ⟨vp, rfl, hop, hbp⟩; obtain ⟨Ap, cp, rfl, hrp, hap⟩ := Row.slice2 hop; clear hop; have hbl2 := hC.lt; have HAp : Hid (∀ g off, Ap = some ⟨g, off, none⟩ → g ≠ b) := Lib.hid (fun g off e => by have := hap g off e; omega); clear hap; replace hC := hC.below hbp; replace hO := hO.below hbp; replace hB := hB.trans (hbp.mono hB.size)) | (go_at_call 11; (with_reducible refine (try_n _ b U M hC HF.out (pathL h) Ln HLn y Ap cp hrp HAp.out HAsk _ HFu hq).mono ?_); rintro e wz ⟨rfl, hN, hT⟩; replace hB := hT.below hB hb hB.size; replace hO := hO.one hT hob; clear hT hC; have hC := hN; clear hN))
            obtain ⟨u, hu⟩ : ∃ u, U k = u := ⟨_, rfl⟩
            obtain ⟨m, hm⟩ : ∃ m, M k = m := ⟨_, rfl⟩
            obtain ⟨u0, u1, m0, m1⟩ := HF.out k hk16
            rw [hu] at u0 u1 hMk
            rw [hm] at m0 m1 hMk
            have HM : Hid (getF M ((k : Int) + 1) = m) := Lib.hid (by rw [getF_at' _ hk16, hm])
            have cO := hO.cell (1 + k)
            rw [HO.out.2 k hk16, hu, Nat.add_comm] at cO
            have H17 : Hid (((k : Int) + 1) % 17 = (k : Int) + 1) := Lib.hid (by omega)
            have k0 : (0 : Int) ≤ (k : Int) + 1 := by omega
            have k1 : (k : Int) + 1 < 17 := by omega
            have k3 : ((k : Int) + 1).toNat = k + 1 := by omega
            have t1 : decide (u + y ≤ m) = false := decide_eq_false (by omega)
            have hwr : IntKind.i64.wrap (u + y) = u + y := IntWalk.i64_in _ (by omega)
            clear hu hm hq hq'
            go_wp2
            go_quiet ((first | (go_at_call 9; exact Calls.quiet_of_same (bring_eq _ 17 _ (by omega) (by omega) H17.out _)) | (go_at_call 19; exact Calls.quiet_of_same (most_all _ b U M (hC.drewN _) ((k : Int) + 1) m HM))))
            go_wp2
            clear hwr cO k3
            go_loopw [15] (fun q wr => ∃ k : Nat, k ≤ 16 ∧ q = .int .i64 (1 + (k : Int)) ∧ ChAt wr b U M ∧ Blk wr o 25 cs ∧ Below W.heap.size W wr) (fun q _ => 17 - (intOf q).toNat)
            case atStart => exact ⟨0, by omega, by go_num, hC.drewN _, hO.drewN _, below_drewN hB _⟩
            case round =>
              clear hC hO hB
              obtain ⟨k, hk, rfl, hC, hO, hB⟩ := hrel
              by_cases hk16 : k < 16
              · have k0 : (0 : Int) ≤ 1 + (k : Int) := by omega
                have k1 : 1 + (k : Int) < 17 := by omega
                obtain ⟨u, hu⟩ : ∃ u, U k = u := ⟨_, rfl⟩
                have HU : Hid (getF U (1 + (k : Int)) = u) := Lib.hid (by rw [getF_at _ hk16, hu])
                have cO := hO.cell (1 + k)
                rw [HO.out.2 k hk16, hu] at cO
                have t0 : (u != u) = false := by simp
                clear hu
                go_wp2
                go_quiet ((go_at_call 14; exact Calls.quiet_of_same (used_all _ b U M (hC.drewN _) (1 + (k : Int)) u HU)))
                go_wp2
                go_roundw
                case rel => exact ⟨k + 1, by omega, by go_num, hC.drewN _, hO.drewN _, below_drewN hB _⟩
                case measure => simp [intOf]; omega
              · have k1 : ¬ 1 + (k : Int) < 17 := by omega
                have hzz := hB.size
                go_wp2_with (first | (go_at_call 15; (with_reducible refine (works_any _).mono ?_); rintro e w6 ⟨rfl, hb6⟩))
                go_ret
                exact ⟨rfl, hB.trans (hb6.mono hzz)⟩

end Go.Proofs.Ytnbeofbkfopehaa
