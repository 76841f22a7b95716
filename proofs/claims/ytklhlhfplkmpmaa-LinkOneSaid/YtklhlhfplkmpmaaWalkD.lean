/-
  The walks of the other text's List, and of Fresh (of both texts).
-/
import Derived.Test.YtklhlhfplkmpmaaWalkC
namespace Go.Proofs.Ytklhlhfplkmpmaa
open Go.RowKit

def RefRel (w : World) (ws : List Nat) (key : Nat) (R : List Nat × Int) (s v : Value) (wr : World) : Prop :=
  ∃ (out : List Nat) (f : Int), s = .int .i64 f ∧ Inv ws out f ∧ Hid (runL ws key (17 - out.length) out f = R) ∧ wr.ownsRow w.heap.size 3 1 v out.length (natV out) ∧ Below w.heap.size w wr

theorem nat_at {l : List Nat} {i : Nat} (h : i < l.length) : (natV l)[i]? = some (.int .i64 (l[i] : Nat)) := by simp [h]

set_option maxHeartbeats 2000000 in
theorem refList_ok (ws : List Nat) (key : Nat) (first : Int) (A0 : Option Addr) (c : Nat) (w : World) (hk : key < 18446744073709551616) (hws : ∀ x ∈ ws, x < 18446744073709551616) (hok : okL ws first = true) (hA : Row w A0 (wordV ws)) :
    Calls Try.prog 16 #[.slice A0 ws.length c, .int .u64 key, .int .i64 first] w (ListPost w (runL ws key 17 [] first)) := by
  obtain ⟨R, hR⟩ : ∃ R, runL ws key 17 [] first = R := ⟨_, rfl⟩
  rw [hR]
  have HR := Lib.hid hR
  have HA := Lib.hid hA
  have HW := Lib.hid hws
  have hi0 := Inv.start hok
  have h1 := hi0.len
  have h2 := hi0.lo
  have h3 := hi0.hi
  obtain ⟨i0, hi, hz0, hz1, hz2⟩ := info_parts Try.info3
  have I0 := Lib.hid hi
  have I1 := Lib.hid hz0
  have I2 := Lib.hid hz1
  have I3 := Lib.hid hz2
  clear hR hA hws hok hi hz0 hz1 hz2
  go_enter Try.func16, Try.ntmps16
  go_wp2
  go_loopw [2, 8] (RefRel w ws key R) (fun _ v _ => 16 - lenOf v)
  case atStart => exact ⟨[], first, rfl, hi0, HR, World.ownsRow_nil _ _ _ _, by (repeat' (first | (with_reducible exact Below.refl _ _) | (with_reducible assumption) | (with_reducible refine Below.alloc ?_ ?_ _) | (with_reducible refine below_drewN ?_ _) | (with_reducible refine Below.drew ?_) | (with_reducible refine Below.setCell ?_ ?_ _) | (with_reducible refine below_two ?_ (by with_reducible assumption)) | go_size))⟩
  case round =>
    obtain ⟨out, f, rfl, hI, HK, hown, hw⟩ := hrel
    have hz := hw.size
    have hle := hI.le
    have hlo := hI.lo
    have hhi := hI.hi
    obtain ⟨A, cp, rfl, hrow⟩ := Row.slice hown
    obtain ⟨m, hm⟩ : ∃ m, 17 - out.length = m + 1 := ⟨16 - out.length, by omega⟩
    by_cases hf : f = -1
    · subst hf
      have HN : Hid ((out, (0 : Int)) = R) := Lib.hid (by rw [← HK.out, hm, runL_end])
      clear hm
      go_wp2
      go_ret2
      exact ⟨_, by rw [← HN.out]; rfl, by rw [← HN.out]; exact hown, hw⟩
    · obtain ⟨i, rfl⟩ := Int.eq_ofNat_of_zero_le (show 0 ≤ f by omega)
      have j0 : (0 : Int) ≤ (i : Int) := by omega
      have j2 : (i : Int) < (ws.length : Int) := hhi
      have hil : i < ws.length := by omega
      clear hf
      have HM := Lib.hid hm
      clear hm
      go_wp2
      go_loop [9] (fun j => ∃ t : Nat, t ≤ out.length ∧ j = .int .i64 t ∧ Hid (∀ s, s < t → out[s]? ≠ some i)) (fun j => out.length - (intOf j).toNat)
      case atStart => exact ⟨0, by omega, rfl, Lib.hid (fun s hs => absurd hs (Nat.not_lt_zero s))⟩
      case round =>
        obtain ⟨t, ht, rfl, HT⟩ := hrel
        by_cases hlt : t < out.length
        · obtain ⟨g, go, rfl, hg0, hcell⟩ := hrow (by simp; omega)
          have HG := Lib.hid hcell
          clear hcell
          obtain ⟨y, hy⟩ : ∃ y, out[t] = y := ⟨_, rfl⟩
          have cY := HG.out t _ (nat_at hlt)
          rw [hy] at cY
          have ey : out[t]? = some y := by rw [List.getElem?_eq_getElem hlt, hy]
          have HY := Lib.hid ey
          have t0 : (0 : Int) ≤ (t : Int) := by omega
          have t1 : (t : Int) < (out.length : Int) := by omega
          clear hy ey
          by_cases hyi : y = i
          · have hmem : i ∈ out := List.mem_of_getElem? (hyi ▸ HY.out)
            have HN : Hid (([], (150 : Int)) = R) := Lib.hid (by rw [← HK.out, HM.out, runL_had hmem])
            have hb1 : ((y : Int) == (i : Int)) = true := by rw [beq_iff_eq]; omega
            clear hmem hyi
            go_wp2
            go_ret2
            exact ⟨.slice none 0 0, by rw [← HN.out]; rfl, by rw [← HN.out]; exact World.ownsRow_nil _ _ _ _, hw⟩
          · have HN : Hid (∀ s, s < t + 1 → out[s]? ≠ some i) := Lib.hid (fun s hs => by
              rcases Nat.lt_or_ge s t with h | h
              · exact HT.out s h
              · have : s = t := by omega
                rw [this, HY.out]
                intro e
                injection e with e
                exact hyi e)
            have hb1 : ((y : Int) == (i : Int)) = false := by rw [beq_eq_false_iff_ne]; omega
            clear hyi
            go_wp2
            go_round
            case rel => exact ⟨t + 1, by omega, by go_num, HN⟩
            case measure => simp [intOf]; omega
        · have hmem : i ∉ out := fun h => by
            obtain ⟨s, hs, e⟩ := List.getElem_of_mem h
            exact HT.out s (by omega) (by rw [List.getElem?_eq_getElem hs, e])
          have HN0 : Hid (i ∉ out) := Lib.hid hmem
          have hlen := hI.more rfl hmem
          obtain ⟨x, hx⟩ : ∃ x, ws[i] = x := ⟨_, rfl⟩
          have ex : ws[i]? = some x := by rw [List.getElem?_eq_getElem hil, hx]
          have hxl : x < 18446744073709551616 := HW.out x (hx ▸ List.getElem_mem hil)
          obtain ⟨b, off, rfl, hb, hA⟩ := HA.out (by simp; omega)
          have cX := hA i _ (word_at hil)
          rw [hx] at cX
          rcases hs : showF x key i with ⟨n, bb⟩
          have HS := Lib.hid hs
          have hnb := show_bd hs
          have HO2 := Lib.hid (hown.alloc (.cells #[.int .i64 i] 3))
          have HC2 := Lib.hid (one_news wr wr (.int .i64 i) 3 rfl)
          have HW2 : Hid (Below w.heap.size w (wr.alloc (.cells #[.int .i64 i] 3))) := Lib.hid (by (repeat' (first | (with_reducible exact Below.refl _ _) | (with_reducible assumption) | (with_reducible refine Below.alloc ?_ ?_ _) | (with_reducible refine below_drewN ?_ _) | (with_reducible refine Below.drew ?_) | (with_reducible refine Below.setCell ?_ ?_ _) | (with_reducible refine below_two ?_ (by with_reducible assumption)) | go_size)))
          have HX := Lib.hid ex
          have CX := Lib.hid cX
          clear hs ex cX hx hmem hA
          by_cases hg : bb = true ∧ n < ws.length
          · obtain ⟨rfl, hn⟩ := hg
            have HN : Hid (runL ws key (17 - (out ++ [i]).length) (out ++ [i]) n = R) := Lib.hid (by
              rw [← HK.out, HM.out, runL_step HN0.out HX.out HS.out hn, List.length_append, List.length_singleton, show 17 - (out.length + 1) = m by have := HM.out; omega])
            have hI2 := hI.next rfl HN0.out hnb.1 hn
            go_wp2_with (first | (at_builtin; refine wpList_append_own_at _ rfl _ _ 31 rfl w.heap.size 3 i0 (.int .i64 0) 1 8 Try.underlying31 I0.out I1.out I2.out I3.out rfl (by decide) _ _ _ rfl HO2.out ⟨wr.heap.size, 0, none⟩ 1 1 [.int .i64 i] rfl rfl HC2.out (fun u hu => by simp at hu; subst hu; rfl) (by unfold maxLen; omega) (by omega) (by simp; omega) ?_; intro v' w1 hown1 hgr1 hq1 hq2; clear hq1 hq2; have hw1 := below_grown HW2.out hgr1 (by simp; omega) (fun g hg => (hown.lt g hg).1); have cX1 := (hw1.cell (p := ⟨b, off + i, none⟩) hb).trans CX.out) | (go_at_call 13; with_reducible refine (refShow_at x key hxl hk i _ _ HS.out _).mono ?_; rintro e w0 ⟨rfl, hw0⟩; replace hw0 := hw0.symm; subst hw0))
            obtain ⟨A', c', rfl, -⟩ := Row.slice hown1
            go_roundw
            case rel => exact ⟨out ++ [i], n, rfl, hI2, HN, by rw [List.length_append, List.length_singleton, show natV (out ++ [i]) = natV out ++ [.int .i64 i] by simp]; exact hown1, hw1⟩
            case measure => simp only [lenOf]; omega
          · have HN : Hid (([], (150 : Int)) = R) := Lib.hid (by rw [← HK.out, HM.out, runL_bad HN0.out HX.out HS.out hg])
            cases bb
            · clear hg
              go_wp2_with (first | (at_builtin; refine wpList_append_own_at _ rfl _ _ 31 rfl w.heap.size 3 i0 (.int .i64 0) 1 8 Try.underlying31 I0.out I1.out I2.out I3.out rfl (by decide) _ _ _ rfl HO2.out ⟨wr.heap.size, 0, none⟩ 1 1 [.int .i64 i] rfl rfl HC2.out (fun u hu => by simp at hu; subst hu; rfl) (by unfold maxLen; omega) (by omega) (by simp; omega) ?_; intro v' w1 hown1 hgr1 hq1 hq2; clear hq1 hq2; have hw1 := below_grown HW2.out hgr1 (by simp; omega) (fun g hg => (hown.lt g hg).1); have cX1 := (hw1.cell (p := ⟨b, off + i, none⟩) hb).trans CX.out) | (go_at_call 13; with_reducible refine (refShow_at x key hxl hk i _ _ HS.out _).mono ?_; rintro e w0 ⟨rfl, hw0⟩; replace hw0 := hw0.symm; subst hw0))
              go_ret2
              exact ⟨.slice none 0 0, by rw [← HN.out]; rfl, by rw [← HN.out]; exact World.ownsRow_nil _ _ _ _, hw1⟩
            · have hg' : ¬ n < ws.length := fun h => hg ⟨rfl, h⟩
              clear hg
              go_wp2_with (first | (at_builtin; refine wpList_append_own_at _ rfl _ _ 31 rfl w.heap.size 3 i0 (.int .i64 0) 1 8 Try.underlying31 I0.out I1.out I2.out I3.out rfl (by decide) _ _ _ rfl HO2.out ⟨wr.heap.size, 0, none⟩ 1 1 [.int .i64 i] rfl rfl HC2.out (fun u hu => by simp at hu; subst hu; rfl) (by unfold maxLen; omega) (by omega) (by simp; omega) ?_; intro v' w1 hown1 hgr1 hq1 hq2; clear hq1 hq2; have hw1 := below_grown HW2.out hgr1 (by simp; omega) (fun g hg => (hown.lt g hg).1); have cX1 := (hw1.cell (p := ⟨b, off + i, none⟩) hb).trans CX.out) | (go_at_call 13; with_reducible refine (refShow_at x key hxl hk i _ _ HS.out _).mono ?_; rintro e w0 ⟨rfl, hw0⟩; replace hw0 := hw0.symm; subst hw0))
              go_ret2
              exact ⟨.slice none 0 0, by rw [← HN.out]; rfl, by rw [← HN.out]; exact World.ownsRow_nil _ _ _ _, hw1⟩

theorem list_any (ws : List Nat) (key : Nat) (first : Int) (A : Option Addr) (c : Nat) (w : World) (hk : key < 18446744073709551616) (hws : ∀ x ∈ ws, x < 18446744073709551616) (hl : ws.length ≤ 9223372036854775807)
    (hA : Row w A (wordV ws)) : Calls Try.prog 15 #[.slice A ws.length c, .int .u64 key, .int .i64 first] w (ListPost w (listF ws key first)) := by
  cases hok : okL ws first
  · rw [show listF ws key first = ([], 2) by unfold listF; rw [hok]; rfl]
    have h4 : ¬ (ws.length ≤ 16 ∧ -1 ≤ first ∧ first < ws.length) := fun h => Bool.false_ne_true (hok.symm.trans ((okL_iff ws first).2 h))
    have h5 : 16 < ws.length ∨ first < -1 ∨ (ws.length : Int) ≤ first := by omega
    clear hok h4 hA hws
    rcases h5 with h5 | h5 | h5
    all_goals
      go_enter Try.func15, Try.ntmps15
      go_wp2
      go_step3
      go_wp2
      all_goals
        go_ret2
        exact ⟨.slice none 0 0, rfl, World.ownsRow_nil _ _ _ _, by (repeat' (first | (with_reducible exact Below.refl _ _) | (with_reducible assumption) | (with_reducible refine Below.alloc ?_ ?_ _) | (with_reducible refine below_drewN ?_ _) | (with_reducible refine Below.drew ?_) | (with_reducible refine Below.setCell ?_ ?_ _) | (with_reducible refine below_two ?_ (by with_reducible assumption)) | go_size))⟩
  · rw [show listF ws key first = runL ws key 17 [] first by unfold listF; rw [hok]; rfl]
    exact list_ok ws key first A c w hk hws hok hA
theorem refList_any (ws : List Nat) (key : Nat) (first : Int) (A : Option Addr) (c : Nat) (w : World) (hk : key < 18446744073709551616) (hws : ∀ x ∈ ws, x < 18446744073709551616) (hl : ws.length ≤ 9223372036854775807)
    (hA : Row w A (wordV ws)) : Calls Try.prog 16 #[.slice A ws.length c, .int .u64 key, .int .i64 first] w (ListPost w (listF ws key first)) := by
  cases hok : okL ws first
  · rw [show listF ws key first = ([], 2) by unfold listF; rw [hok]; rfl]
    have h4 : ¬ (ws.length ≤ 16 ∧ -1 ≤ first ∧ first < ws.length) := fun h => Bool.false_ne_true (hok.symm.trans ((okL_iff ws first).2 h))
    have h5 : 16 < ws.length ∨ first < -1 ∨ (ws.length : Int) ≤ first := by omega
    clear hok h4 hA hws
    rcases h5 with h5 | h5 | h5
    all_goals
      go_enter Try.func16, Try.ntmps16
      go_wp2
      all_goals
        go_ret2
        exact ⟨.slice none 0 0, rfl, World.ownsRow_nil _ _ _ _, by (repeat' (first | (with_reducible exact Below.refl _ _) | (with_reducible assumption) | (with_reducible refine Below.alloc ?_ ?_ _) | (with_reducible refine below_drewN ?_ _) | (with_reducible refine Below.drew ?_) | (with_reducible refine Below.setCell ?_ ?_ _) | (with_reducible refine below_two ?_ (by with_reducible assumption)) | go_size))⟩
  · rw [show listF ws key first = runL ws key 17 [] first by unfold listF; rw [hok]; rfl]
    exact refList_ok ws key first A c w hk hws hok hA

end Go.Proofs.Ytklhlhfplkmpmaa
