/-
  The walk of ChargeSums: counts are sums.
-/
import Derived.Test.YtnbeofbkfopehaaSums
import Derived.Test.YtnbeofbkfopehaaLawA
import Derived.WalkKit
import Derived.Deep.DeepMust
import Derived.WalkSpells
import Derived.WalkLawsBesides
import Derived.Handy
import Derived.Lib.Hide
import Derived.Deep.QuietTactic
import Derived.BigQuiet
namespace Go.Proofs.Ytnbeofbkfopehaa
open Go.RowKit

set_option maxRecDepth 100000 in
set_option maxHeartbeats 8000000 in
theorem sums_any (l : Nat) (A : Option Addr) (c : Nat) (D : Nat → DoR) (W : World) (hX : Dos W A l D) : Calls Try.prog 3 #[.slice A l c] W fun e w' => e = .returned (.bool true) ∧ Below W.heap.size W w' := by
  go_enter Try.func3, Try.ntmps3
  have HX := Lib.hid hX
  clear hX
  go_wp2_with (first | (go_at_call 8; (with_reducible refine (new_any _).mono ?_); rintro r w1 ⟨b, rfl, hC, hb, hB⟩; have hl1 := hC.lt))
  have hBO := Blk.new w1 25 #[.int .i64 0, .int .i64 0, .int .i64 0, .int .i64 0, .int .i64 0, .int .i64 0, .int .i64 0, .int .i64 0, .int .i64 0, .int .i64 0, .int .i64 0, .int .i64 0, .int .i64 0, .int .i64 0, .int .i64 0, .int .i64 0, .int .i64 0]
  obtain ⟨o, ho⟩ : ∃ o, w1.heap.size = o := ⟨_, rfl⟩
  have hob : W.heap.size ≤ o := by rw [← ho]; exact hB.size
  rw [ho] at hBO hl1 ⊢
  clear ho
  go_loopw [5] (fun q wr => ∃ (i : Nat) (own U M : Nat → Int) (cs : Array Value), i ≤ l ∧ i ≤ 100 ∧ q = .int .i64 i ∧ ChAt wr b U M ∧ Hid (Fine U M) ∧ Blk wr o 25 cs ∧ Hid (OwnC cs own) ∧ Hid (Sums U own) ∧ Below W.heap.size W wr) (fun q _ => 100 - (intOf q).toNat)
  case atStart => exact ⟨0, zeroU, zeroU, mostU, _, by omega, by omega, rfl, hC.alloc _, Lib.hid fine_new, hBO, Lib.hid OwnC.zero, Lib.hid Sums.zero, hB.alloc hB.size _⟩
  case round =>
    clear hBO hC hB
    obtain ⟨i, own, U, M, cs, hil, hi1, rfl, hC, HF, hBO, HO, HS, hB⟩ := hrel
    have hz := hB.size
    have hthree : (i < l ∧ i < 100) ∨ ¬ i < l ∨ (i < l ∧ ¬ i < 100) := by omega
    rcases hthree with ⟨hlt, h100⟩ | hlt | ⟨hlt, h100⟩
    · obtain ⟨g0, off, hA0, hg0, hc⟩ := HX.out (by omega)
      subst hA0
      obtain ⟨e0, e1, e2, -, -, -⟩ := hc i hlt
      obtain ⟨kk, hkk⟩ : ∃ x, (D i).k = x := ⟨_, rfl⟩
      obtain ⟨x, hx⟩ : ∃ x, (D i).x = x := ⟨_, rfl⟩
      obtain ⟨n, hn⟩ : ∃ x, (D i).n = x := ⟨_, rfl⟩
      rw [hkk] at e0
      rw [hx] at e1
      rw [hn] at e2
      have c0 := (hB.cell (p := ⟨g0, _, none⟩) hg0).trans e0
      have c1 := (hB.cell (p := ⟨g0, _, none⟩) hg0).trans e1
      have c2 := (hB.cell (p := ⟨g0, _, none⟩) hg0).trans e2
      clear e0 e1 e2 hkk hx hn hc
      obtain ⟨h, Hx⟩ : ∃ h : Nat, Hid (x % 16 = (h : Int)) := ⟨(x % 16).toNat, Lib.hid (by omega)⟩
      have hh : h < 16 := by have := Hx.out; omega
      obtain ⟨y, Hn⟩ : ∃ y, Hid (n % 500 = y) := ⟨_, Lib.hid rfl⟩
      have y0 : 0 ≤ y := by have := Hn.out; omega
      have y1 : y < 500 := by have := Hn.out; omega
      obtain ⟨z, Hz⟩ : ∃ y, Hid (n % 5000 = y) := ⟨_, Lib.hid rfl⟩
      have z0 : 0 ≤ z := by have := Hz.out; omega
      have z1 : z < 5000 := by have := Hz.out; omega
      have i0 : (0 : Int) ≤ (i : Int) := by omega
      have i1 : (i : Int) < (l : Int) := by omega
      have i2 : (i : Int) < 100 := by omega
      have hbo : b ≠ o := by omega
      have hbl := hC.lt
      obtain ⟨Ln, HLn⟩ : ∃ Ln, Hid ((pathL h).length = Ln) := ⟨_, Lib.hid rfl⟩
      have HAsk : Hid (askF (pathL h) y = 0) := Lib.hid (path_ask hh y0 (by omega))
      have hcase : Hid (kk % 3 = 0) ∨ Hid (kk % 3 = 1) ∨ Hid (kk % 3 = 2) := by
        have : kk % 3 = 0 ∨ kk % 3 = 1 ∨ kk % 3 = 2 := by omega
        rcases this with h | h | h
        · exact .inl (Lib.hid h)
        · exact .inr (.inl (Lib.hid h))
        · exact .inr (.inr (Lib.hid h))
      rcases hcase with Hk | Hk | Hk
      · go_wp2_with (first | (go_at_call 9; with_reducible refine (bring_any x 16 (by omega) (by omega) _).mono ?_; rintro e w0 ⟨rfl, hw0⟩; replace hw0 := hw0.symm; subst hw0; rw [Hx.out]) | (go_at_call 9; with_reducible refine (bring_any n 500 (by omega) (by omega) _).mono ?_; rintro e w0 ⟨rfl, hw0⟩; replace hw0 := hw0.symm; subst hw0; rw [Hn.out]) | (go_at_call 9; with_reducible refine (bring_any kk 3 (by omega) (by omega) _).mono ?_; rintro e w0 ⟨rfl, hw0⟩; replace hw0 := hw0.symm; subst hw0; rw [Hk.out]) | (go_at_call 9; with_reducible refine (bring_any n 5000 (by omega) (by omega) _).mono ?_; rintro e w0 ⟨rfl, hw0⟩; replace hw0 := hw0.symm; subst hw0; rw [Hz.out]) | (go_at_call 10; (with_reducible refine (limit_ok _ b U M hC (1 + (h : Int)) z h hh (by omega) (Lib.hid (ask_one' hh z0 (by omega)))).mono ?_); rintro r w3 ⟨rfl, hN, hT⟩; replace hB := hT.below hB hb hz; replace hBO := hBO.one hT (Ne.symm hbo); clear hT hC; have hC := hN; clear hN))
        go_roundw
        case rel => exact ⟨i + 1, own, U, upd M h z, cs, by omega, by omega, by go_num, hC, Lib.hid (HF.out.limit z0 (by omega)), hBO, HO, HS, hB⟩
        case measure => simp [intOf]; omega
      · obtain ⟨q, HFu⟩ : ∃ q, Hid (fullF U M y (pathL h) = q) := ⟨_, Lib.hid rfl⟩
        obtain ⟨v, hv⟩ : ∃ v, own h = v := ⟨_, rfl⟩
        by_cases hq : q = 0
        · subst hq
          have HN := Lib.hid (HS.out.step hh (d := y) (by have := HS.out.1 h; omega))
          have HFN := Lib.hid (HF.out.try HAsk.out HFu.out)
          have HV := Lib.hid hv
          have hmax : v + y ≤ 9007199254740991 := by
            have h1 := HN.out.le hh
            have h2 := HFN.out h hh
            rw [← hv]
            unfold upd at h1
            rw [if_pos rfl] at h1
            omega
          have hmin : 0 ≤ v := by rw [← hv]; exact HS.out.1 h
          have hwr : IntKind.i64.wrap (v + y) = v + y := IntWalk.i64_in _ (by omega)
          have HON := Lib.hid (HO.out.set hh (v + y))
          rw [hv] at HN
          have HO2 : Hid (cs[1 + h]? = some (.int .i64 v)) := Lib.hid (by rw [← hv]; exact HO.out.2 h hh)
          clear hv
          go_wp2_with (first | (go_at_call 9; with_reducible refine (bring_any x 16 (by omega) (by omega) _).mono ?_; rintro e w0 ⟨rfl, hw0⟩; replace hw0 := hw0.symm; subst hw0; rw [Hx.out]) | (go_at_call 9; with_reducible refine (bring_any n 500 (by omega) (by omega) _).mono ?_; rintro e w0 ⟨rfl, hw0⟩; replace hw0 := hw0.symm; subst hw0; rw [Hn.out]) | (go_at_call 9; with_reducible refine (bring_any kk 3 (by omega) (by omega) _).mono ?_; rintro e w0 ⟨rfl, hw0⟩; replace hw0 := hw0.symm; subst hw0; rw [Hk.out]) | (go_at_call 12; (with_reducible refine (path_any (1 + (h : Int) - 1) h hh (Lib.hid (by omega)) Ln HLn _).mono ?_); rintro r wp ⟨vp, rfl, hop, hbp⟩; obtain ⟨Ap, cp, rfl, hrp, hap⟩ := Row.slice2 hop; clear hop; replace hC := hC.below hbp; replace hBO := hBO.below hbp; replace hB := hB.trans (hbp.mono hz)) | (go_at_call 11; (with_reducible refine (try_y _ b U M hC HF.out (pathL h) Ln HLn y _ _ hrp (fun g off e => by have := hap g off e; omega) HAsk HFu).mono ?_); rintro r w3 ⟨rfl, hN, hT⟩; replace hB := hT.below hB hb hB.size; replace hBO := hBO.one hT (Ne.symm hbo); clear hT hC; have hC := hN; clear hN; have cO := hBO.cell (1 + h); rw [HO2.out] at cO; have fO := hBO.frozen (1 + h)))
          go_roundw
          case rel => exact ⟨i + 1, upd own h (v + y), addP U (pathL h) y, M, _, by omega, by omega, by go_num, hC.far hbo _, HFN, hBO.set_ (1 + h) _, HON, HN, hB.setCell hob _⟩
          case measure => simp [intOf]; omega
        · have hq' : (q == 0) = false := beq_eq_false_iff_ne.2 hq
          go_wp2_with (first | (go_at_call 9; with_reducible refine (bring_any x 16 (by omega) (by omega) _).mono ?_; rintro e w0 ⟨rfl, hw0⟩; replace hw0 := hw0.symm; subst hw0; rw [Hx.out]) | (go_at_call 9; with_reducible refine (bring_any n 500 (by omega) (by omega) _).mono ?_; rintro e w0 ⟨rfl, hw0⟩; replace hw0 := hw0.symm; subst hw0; rw [Hn.out]) | (go_at_call 9; with_reducible refine (bring_any kk 3 (by omega) (by omega) _).mono ?_; rintro e w0 ⟨rfl, hw0⟩; replace hw0 := hw0.symm; subst hw0; rw [Hk.out]) | (go_at_call 12; (with_reducible refine (path_any (1 + (h : Int) - 1) h hh (Lib.hid (by omega)) Ln HLn _).mono ?_); rintro r wp ⟨vp, rfl, hop, hbp⟩; obtain ⟨Ap, cp, rfl, hrp, hap⟩ := Row.slice2 hop; clear hop; replace hC := hC.below hbp; replace hBO := hBO.below hbp; replace hB := hB.trans (hbp.mono hz)) | (go_at_call 11; (with_reducible refine (try_n _ b U M hC HF.out (pathL h) Ln HLn y _ _ hrp (fun g off e => by have := hap g off e; omega) HAsk q HFu hq).mono ?_); rintro r w3 ⟨rfl, hN, hT⟩; replace hB := hT.below hB hb hB.size; replace hBO := hBO.one hT (Ne.symm hbo); clear hT hC; have hC := hN; clear hN))
          go_roundw
          case rel => exact ⟨i + 1, own, U, M, cs, by omega, by omega, by go_num, hC, HF, hBO, HO, HS, hB⟩
          case measure => simp [intOf]; omega
      · obtain ⟨v, hv⟩ : ∃ v, own h = v := ⟨_, rfl⟩
        have HO2 : Hid (cs[1 + h]? = some (.int .i64 v)) := Lib.hid (by rw [← hv]; exact HO.out.2 h hh)
        have cQ := hBO.cell (1 + h)
        rw [HO2.out] at cQ
        have hmin : 0 ≤ v := by rw [← hv]; exact HS.out.1 h
        have hmax : v ≤ 9007199254740991 := by
          have h1 := HS.out.le hh
          have h2 := HF.out h hh
          omega
        by_cases hge : y ≤ v
        · have HLo : Hid (lowB U y (pathL h) = true) := Lib.hid (HS.out.low hh (by rw [hv]; exact hge))
          have HN := Lib.hid (HS.out.step hh (d := -y) (by omega))
          have HFN := Lib.hid (HF.out.back y0 HLo.out)
          rw [hv, ← Int.sub_eq_add_neg] at HN
          have hwr : IntKind.i64.wrap (v - y) = v - y := IntWalk.i64_in _ (by omega)
          have HON := Lib.hid (HO.out.set hh (v - y))
          clear hv
          go_wp2_with (first | (go_at_call 9; with_reducible refine (bring_any x 16 (by omega) (by omega) _).mono ?_; rintro e w0 ⟨rfl, hw0⟩; replace hw0 := hw0.symm; subst hw0; rw [Hx.out]) | (go_at_call 9; with_reducible refine (bring_any n 500 (by omega) (by omega) _).mono ?_; rintro e w0 ⟨rfl, hw0⟩; replace hw0 := hw0.symm; subst hw0; rw [Hn.out]) | (go_at_call 9; with_reducible refine (bring_any kk 3 (by omega) (by omega) _).mono ?_; rintro e w0 ⟨rfl, hw0⟩; replace hw0 := hw0.symm; subst hw0; rw [Hk.out]) | (go_at_call 12; (with_reducible refine (path_any (1 + (h : Int) - 1) h hh (Lib.hid (by omega)) Ln HLn _).mono ?_); rintro r wp ⟨vp, rfl, hop, hbp⟩; obtain ⟨Ap, cp, rfl, hrp, hap⟩ := Row.slice2 hop; clear hop; replace hC := hC.below hbp; replace hBO := hBO.below hbp; replace hB := hB.trans (hbp.mono hz)) | (go_at_call 13; (with_reducible refine (back_y _ b U M hC HF.out (pathL h) Ln HLn y _ _ hrp (fun g off e => by have := hap g off e; omega) HAsk HLo).mono ?_); rintro r w3 ⟨rfl, hN, hT⟩; replace hB := hT.below hB hb hB.size; replace hBO := hBO.one hT (Ne.symm hbo); clear hT hC; have hC := hN; clear hN; have cO := hBO.cell (1 + h); rw [HO2.out] at cO; have fO := hBO.frozen (1 + h)))
          go_roundw
          case rel => exact ⟨i + 1, upd own h (v - y), addP U (pathL h) (-y), M, _, by omega, by omega, by go_num, hC.far hbo _, HFN, hBO.set_ (1 + h) _, HON, HN, hB.setCell hob _⟩
          case measure => simp [intOf]; omega
        · clear hv
          go_wp2_with (first | (go_at_call 9; with_reducible refine (bring_any x 16 (by omega) (by omega) _).mono ?_; rintro e w0 ⟨rfl, hw0⟩; replace hw0 := hw0.symm; subst hw0; rw [Hx.out]) | (go_at_call 9; with_reducible refine (bring_any n 500 (by omega) (by omega) _).mono ?_; rintro e w0 ⟨rfl, hw0⟩; replace hw0 := hw0.symm; subst hw0; rw [Hn.out]) | (go_at_call 9; with_reducible refine (bring_any kk 3 (by omega) (by omega) _).mono ?_; rintro e w0 ⟨rfl, hw0⟩; replace hw0 := hw0.symm; subst hw0; rw [Hk.out]))
          go_roundw
          case rel => exact ⟨i + 1, own, U, M, cs, by omega, by omega, by go_num, hC, HF, hBO, HO, HS, hB⟩
          case measure => simp [intOf]; omega
    all_goals
      obtain ⟨wo, hwo⟩ : ∃ wo : World, wo = wr := ⟨_, rfl⟩
      subst hwo
      have hbl := hC.lt
      have hol := hBO.lt
      go_wp2
      go_loopw [10] (fun q w2 => ∃ k : Nat, k ≤ 16 ∧ q = .int .i64 (1 + (k : Int)) ∧ Below wo.heap.size wo w2) (fun q _ => 17 - (intOf q).toNat)
      case atStart => exact ⟨0, by omega, by go_num, Below.refl _ _⟩
      case round =>
        obtain ⟨k, hk, rfl, hw⟩ := hrel
        have hzw := hw.size
        by_cases hk16 : k < 16
        · have k0 : (0 : Int) ≤ (k : Int) := by omega
          have k1 : 1 + (k : Int) < 17 := by omega
          obtain ⟨wa, hwa⟩ : ∃ wa : World, wa = wr := ⟨_, rfl⟩
          subst hwa
          go_wp2
          go_loopw [11, 12] (fun t q w3 => ∃ (H : Nat) (s : Int), H ≤ 16 ∧ q = .int .i64 (1 + (H : Int)) ∧ t = .int .i64 s ∧ Hid (sumO own k H = s) ∧ Below wo.heap.size wo w3) (fun _ q _ => 17 - (intOf q).toNat)
          case atStart => exact ⟨0, 0, by omega, by go_num, by go_num, Lib.hid rfl, hw⟩
          case round =>
            clear hw
            obtain ⟨H, s, hH, rfl, rfl, HSu, hw⟩ := hrel
            by_cases hH16 : H < 16
            · have j0 : (0 : Int) ≤ (H : Int) := by omega
              have j1 : 1 + (H : Int) < 17 := by omega
              obtain ⟨v, Hv⟩ : ∃ v, Hid (own H = v) := ⟨_, Lib.hid rfl⟩
              obtain ⟨P, HP⟩ : ∃ P, Hid (pathL H = P) := ⟨_, Lib.hid rfl⟩
              obtain ⟨Ln, HLn⟩ : ∃ Ln, Hid ((pathL H).length = Ln) := ⟨_, Lib.hid rfl⟩
              go_wp2_with (first | (go_at_call 12; (with_reducible refine (path_any (1 + (H : Int) - 1) H hH16 (Lib.hid (by omega)) Ln HLn _).mono ?_); rintro r wp ⟨vp, rfl, hop, hbp⟩; obtain ⟨Ap, cp, rfl, hrp, hap⟩ := Row.slice2 hop; clear hop hap; replace hw := hw.trans (hbp.mono hw.size)))
              have cO := (hBO.below hw).cell (1 + H)
              rw [HO.out.2 H hH16, Hv.out] at cO
              obtain ⟨wb, hwb⟩ : ∃ wb : World, wb = wp := ⟨_, rfl⟩
              subst hwb
              obtain ⟨gp, op, rfl, hgp, hcp⟩ := hrp (by rw [intsV_len]; exact path_len1 ⟨H, hH16⟩)
              have HPc := Lib.hid hcp
              have hL5 : Ln ≤ 5 := by rw [← HLn.out]; exact pathF_len 5 (H + 1)
              clear hcp hrp
              go_loopw [11, 14] (fun t q w5 => ∃ (j : Nat) (u : Int), j ≤ Ln ∧ q = .int .i64 j ∧ t = .int .i64 u ∧ Hid (u = bif seenB (pathL H) j k then s + v else s) ∧ Below wb.heap.size wb w5) (fun _ q _ => Ln - (intOf q).toNat)
              case atStart => exact ⟨0, s, by omega, rfl, rfl, Lib.hid (by rw [seenB_zero]; rfl), Below.refl _ _⟩
              case round =>
                obtain ⟨j, u, hj, rfl, rfl, HU, hw5⟩ := hrel
                have hzb := hw.size
                by_cases hjl : j < Ln
                · have hjL : j < (pathL H).length := by rw [HLn.out]; exact hjl
                  obtain ⟨x, hx⟩ : ∃ x, (pathL H)[j] = x := ⟨_, rfl⟩
                  have cK := (hw5.cell (p := ⟨gp, op + j, none⟩) hgp).trans (HPc.out j _ (intsV_at hjL))
                  rw [hx] at cK
                  have m0 : (0 : Int) ≤ (j : Int) := by omega
                  have m1 : (j : Int) < (Ln : Int) := by omega
                  have cO5 := (hw5.cell (p := ⟨o, 1 + H, none⟩) (show o < wb.heap.size by omega)).trans cO
                  have HSn := seenB_next (k := k) hjL
                  rw [hx] at HSn
                  by_cases hxk : x = 1 + (k : Int)
                  · have hno := seen_no (path_nodup ⟨H, hH16⟩) (k := k) hjL (by rw [hx, hxk]; omega)
                    have HU2 : Hid (s + v = bif seenB (pathL H) (j + 1) k then s + v else s) := Lib.hid (by rw [HSn, decide_eq_true (by omega), Bool.or_true]; rfl)
                    have hu : u = s := by have := HU.out; rw [hno] at this; exact this
                    have hon : onP H k = true := by
                      unfold onP
                      rw [List.contains_iff_mem, show (k : Int) + 1 = x by omega, ← hx]
                      exact List.getElem_mem hjL
                    have hs0 : 0 ≤ s := by rw [← HSu.out]; exact sumO_nonneg HS.out.1 k H
                    have hv0 : 0 ≤ v := by rw [← Hv.out]; exact HS.out.1 H
                    have hsv : s + v ≤ 9007199254740991 := by
                      have h1 := sumO_mono HS.out.1 k (show H + 1 ≤ 16 by omega)
                      have h2 : sumO own k (H + 1) = s + v := by
                        show sumO own k H + (bif onP H k then own H else 0) = _
                        rw [hon, HSu.out, Hv.out]; rfl
                      have h3 := HS.out.2 k hk16
                      have h4 := HF.out k hk16
                      omega
                    have hwr : IntKind.i64.wrap (s + v) = s + v := IntWalk.i64_in _ (by omega)
                    subst hu hxk
                    clear hno hon hx HSn
                    go_wp2
                    go_roundw
                    case rel => exact ⟨j + 1, u + v, by omega, by go_num, rfl, HU2, hw5⟩
                    case measure => simp [intOf]; omega
                  · have HU2 : Hid (u = bif seenB (pathL H) (j + 1) k then s + v else s) := Lib.hid (by rw [HSn, decide_eq_false (by omega), Bool.or_false]; exact HU.out)
                    have hxe : (x == 1 + (k : Int)) = false := beq_eq_false_iff_ne.2 hxk
                    clear hx HSn
                    go_wp2
                    go_roundw
                    case rel => exact ⟨j + 1, u, by omega, by go_num, rfl, HU2, hw5⟩
                    case measure => simp [intOf]; omega
                · have HN : Hid (sumO own k (H + 1) = u) := Lib.hid (by
                    have hjL : j = (pathL H).length := by rw [HLn.out]; omega
                    have h1 := HU.out
                    show sumO own k H + (bif onP H k then own H else 0) = _
                    have h2 : seenB (pathL H) j k = onP H k := by unfold seenB onP; rw [hjL, List.take_length]
                    rw [h2] at h1
                    rw [HSu.out, Hv.out, h1]
                    cases onP H k
                    · simp
                    · simp)
                  go_wp2
                  go_roundw
                  case rel => exact ⟨H + 1, u, by omega, by go_num, rfl, HN, hw.trans (hw5.mono hzb)⟩
                  case measure => simp [intOf]; omega
            · obtain rfl : H = 16 := by omega
              have HUk : U k = s := by rw [← HSu.out]; exact HS.out.2 k hk16
              go_wp2_with (first | (go_at_call 14; with_reducible refine (used_ok _ b U M (hC.below hw) (1 + (k : Int)) k hk16 (by omega) s HUk).mono ?_; rintro r w0 ⟨rfl, hw0⟩; replace hw0 := hw0.symm; subst hw0))
              go_roundw
              case rel => exact ⟨k + 1, by omega, by go_num, hw⟩
              case measure => simp [intOf]; omega
        · go_wp2_with (first | (go_at_call 15; with_reducible refine (works_any _).mono ?_; rintro r w6 ⟨rfl, hb6⟩))
          go_ret
          exact ⟨rfl, (hB.trans (hw.mono hz)).trans (hb6.mono (Nat.le_trans hz hzw))⟩

end Go.Proofs.Ytnbeofbkfopehaa
