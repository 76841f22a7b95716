/-
  The walks of Out, Back; of EqBytes, CopyBytes.
-/
import Derived.Test.YtindgcbnpbhciaaWalkD
import Derived.Laws.BytesArg
import Derived.WalkKit
import Derived.Deep.DeepMust
import Derived.WalkSpells
import Derived.WalkLawsBesides
import Derived.Handy
import Derived.Lib.Hide
import Derived.Deep.QuietTactic
import Derived.BigQuiet
namespace Go.Proofs.Ytindgcbnpbhciaa
open Go.RowKit

theorem chk_zero {out : Bool} {xs : List Int} {n : Nat} (hn : xs.length = n) (h : chkE out xs = 0) : ∃ s, n = s + 16 ∧ 1 ≤ s ∧ s ≤ 1024 := by
  cases hs : sizeOk xs.length
  · rw [(chk_size hs).2] at h; omega
  · obtain ⟨h1, h2⟩ := sizeOk_iff.1 hs
    exact ⟨n - 16, by omega, by omega, by omega⟩

theorem out_no (w : World) (A : Option Addr) (n c : Nat) (xs : List Int) (hn : Hid (xs.length = n)) (hnc : n ≤ c) (hm : n ≤ 9223372036854775807) (hA : Row w A (bV xs)) (e : Int) (he : Hid (chkE false xs = e)) (h0 : e ≠ 0) :
    Calls Try.prog 16 #[.slice A n c] w fun r w' => r = .returned (.tuple #[.slice none 0 0, .int .i64 e]) ∧ Below w.heap.size w w' := by
  have HA := Lib.hid hA
  have t0 : (e != 0) = true := bne_iff_ne.2 h0
  obtain ⟨D, hD⟩ : ∃ D, Hid (chkA false xs = D) := ⟨_, Lib.hid rfl⟩
  clear hA h0
  go_enter Try.func16, Try.ntmps16
  go_wp2_with (first | (go_at_call 13; (with_reducible refine (check_any _ A n c xs hn hnc hm HA.out false).mono ?_); rintro r w1 ⟨rfl, hb⟩; rw [hD.out, he.out]))
  go_ret2
  exact ⟨rfl, hb⟩
theorem out_ok (w : World) (A : Option Addr) (s c : Nat) (xs : List Int) (hn : Hid (xs.length = s + 16)) (hnc : s + 16 ≤ c) (h2 : s ≤ 1024) (hA : Row w A (bV xs)) (he : Hid (chkE false xs = 0)) :
    Calls Try.prog 16 #[.slice A (s + 16) c] w fun e w' => ∃ g d, e = .returned (.tuple #[.slice (some ⟨g, 0, none⟩) (s + 16) d, .int .i64 0]) ∧ s + 16 ≤ d ∧ w.heap.size ≤ g ∧ RowM w' g (layL s 204 90 90) ∧ Below w.heap.size w w' := by
  have HA := Lib.hid hA
  obtain ⟨D, hD⟩ : ∃ D, Hid (chkA false xs = D) := ⟨_, Lib.hid rfl⟩
  clear hA
  go_enter Try.func16, Try.ntmps16
  go_wp2_with (first | (go_at_call 13; (with_reducible refine (check_any _ A (s + 16) c xs hn hnc (by omega) HA.out false).mono ?_); rintro r w1 ⟨rfl, hb⟩; rw [hD.out, he.out]; have z1 := hb.size) | (go_at_call 24; (with_reducible refine (laid_new s h2 204 90 (s : Int) rfl _).mono ?_); rintro e w2 ⟨g, d, rfl, hd, hg, hM, hb2⟩))
  go_ret2
  exact ⟨g, d, rfl, hd, by omega, hM, hb.trans (hb2.mono z1)⟩
theorem back_no (w : World) (A : Option Addr) (n c : Nat) (xs : List Int) (hn : Hid (xs.length = n)) (hnc : n ≤ c) (hm : n ≤ 9223372036854775807) (hA : Row w A (bV xs)) (e : Int) (he : Hid (chkE true xs = e)) (h0 : e ≠ 0) :
    Calls Try.prog 18 #[.slice A n c] w fun r w' => r = .returned (.tuple #[.slice none 0 0, .int .i64 e]) ∧ Below w.heap.size w w' := by
  have HA := Lib.hid hA
  have t0 : (e != 0) = true := bne_iff_ne.2 h0
  obtain ⟨D, hD⟩ : ∃ D, Hid (chkA true xs = D) := ⟨_, Lib.hid rfl⟩
  clear hA h0
  go_enter Try.func18, Try.ntmps18
  go_wp2_with (first | (go_at_call 13; (with_reducible refine (check_any _ A n c xs hn hnc hm HA.out true).mono ?_); rintro r w1 ⟨rfl, hb⟩; rw [hD.out, he.out]))
  go_ret2
  exact ⟨rfl, hb⟩
theorem back_ok (w : World) (A : Option Addr) (s c : Nat) (xs : List Int) (hn : Hid (xs.length = s + 16)) (hnc : s + 16 ≤ c) (h1 : 1 ≤ s) (h2 : s ≤ 1024) (hA : Row w A (bV xs)) (he : Hid (chkE true xs = 0)) :
    Calls Try.prog 18 #[.slice A (s + 16) c] w fun e w' => ∃ g d, e = .returned (.tuple #[.slice (some ⟨g, 0, none⟩) (s + 16) d, .int .i64 0]) ∧ s + 16 ≤ d ∧ w.heap.size ≤ g ∧ RowM w' g (layL s 187 107 165) ∧ Below w.heap.size w w' := by
  have HA := Lib.hid hA
  obtain ⟨D, hD⟩ : ∃ D, Hid (chkA true xs = D) := ⟨_, Lib.hid rfl⟩
  clear hA
  go_enter Try.func18, Try.ntmps18
  go_wp2_with (first | (go_at_call 13; (with_reducible refine (check_any _ A (s + 16) c xs hn hnc (by omega) HA.out true).mono ?_); rintro r w1 ⟨rfl, hb⟩; rw [hD.out, he.out]; have z1 := hb.size) | (go_at_call 21; (with_reducible refine (in_any s h1 h2 (s : Int) rfl _).mono ?_); rintro e w2 ⟨g, d, rfl, hd, hg, hM, hb2⟩))
  go_ret2
  exact ⟨g, d, rfl, hd, by omega, hM, hb.trans (hb2.mono z1)⟩

theorem run_str (w : World) (A : Option Addr) (n c : Nat) (xs : List Int) (hn : xs.length = n) (hA : Row w A (bV xs)) : (convert 22 9 (.slice A n c)).run Try.prog w = .ok (.string (strOfNums xs)) w := by
  rcases Nat.eq_zero_or_pos n with h0 | h0
  · subst h0
    obtain rfl := List.eq_nil_of_length_eq_zero hn
    rcases A with _ | a
    · exact run_convert_bytes_nil (P := Try.prog) w 22 5 Try.underlying22 Try.underlying5 0 c 9 Try.underlying9
    · rw [run_convert_bytes_string w 22 9 5 _ 0 c Try.underlying22 Try.underlying5 Try.underlying9, run_bytesToString w a 0 c [] (by simpa using run_loadCells_list (P := Try.prog) w a [] (by simp))]
      rfl
  · obtain ⟨b, off, rfl, hb, hc⟩ := hA (by rw [bV_len]; omega)
    refine run_convert_bytes_arg (P := Try.prog) w 22 5 Try.underlying22 Try.underlying5 b off n c xs hn (fun i hi => ?_) 9 Try.underlying9
    rw [hc i _ (bV_at (by omega)), List.getD_eq_getElem?_getD, List.getElem?_eq_getElem (by omega)]
    rfl
theorem str_inj {xs ys : List Int} (hx : By xs) (hy : By ys) (h : strOfNums xs = strOfNums ys) : xs = ys := by
  have h1 := congrArg (fun s : ByteArray => s.data.toList) h
  simp only [strOfNums_data] at h1
  have hl : xs.length = ys.length := by have := congrArg List.length h1; simpa using this
  apply List.ext_getElem hl
  intro k hk hk'
  have h2 : (xs.map fun n => UInt8.ofNat n.toNat)[k]? = (ys.map fun n => UInt8.ofNat n.toNat)[k]? := by rw [h1]
  rw [List.getElem?_map, List.getElem?_map, List.getElem?_eq_getElem hk, List.getElem?_eq_getElem hk'] at h2
  simp only [Option.map_some, Option.some.injEq] at h2
  have h3 := congrArg UInt8.toNat h2
  have hx' := hx _ (List.getElem_mem hk)
  have hy' := hy _ (List.getElem_mem hk')
  simp only [UInt8.toNat_ofNat'] at h3
  omega

theorem toList_loop (bs : ByteArray) : ∀ (m i : Nat) (r : List UInt8), bs.size - i = m → ByteArray.toList.loop bs i r = r.reverse ++ bs.data.toList.drop i
  | 0, i, r, h => by
    unfold ByteArray.toList.loop
    rw [if_neg (by omega), List.drop_eq_nil_of_le (by show bs.data.size ≤ i; have : bs.size = bs.data.size := rfl; omega), List.append_nil]
  | m + 1, i, r, h => by
    have hs : bs.size = bs.data.size := rfl
    have hi : i < bs.data.toList.length := by show i < bs.data.size; omega
    unfold ByteArray.toList.loop
    rw [if_pos (by omega), toList_loop bs m (i + 1) _ (by omega), List.drop_eq_getElem_cons hi, List.reverse_cons, List.append_assoc, List.singleton_append]
    congr 2
    show bs.get! i = _
    rw [Array.getElem_toList]
    exact getElem!_pos bs.data i (by omega)
theorem toList_data (bs : ByteArray) : bs.toList = bs.data.toList := by
  unfold ByteArray.toList
  rw [toList_loop bs _ 0 [] rfl]
  simp
theorem toList_inj {s t : ByteArray} (h : s.toList = t.toList) : s = t := by
  rw [toList_data, toList_data] at h
  cases s; cases t
  congr 1
  exact Array.toList_inj.1 h

theorem eqB (xs ys : List Int) (n m : Nat) (r : Bool) (hn : xs.length = n) (hm : ys.length = m) (hx : By xs) (hy : By ys) (hr : decide (xs = ys) = r) (A B : Option Addr) (c d : Nat) (w : World)
    (hA : Row w A (bV xs)) (hB : Row w B (bV ys)) : Calls Try.prog 11 #[.slice A n c, .slice B m d] w fun e w' => e = .returned (.bool r) ∧ w' = w := by
  have r1 := run_str w A n c xs hn hA
  have r2 := run_str w B m d ys hm hB
  have hS : ((strOfNums xs).toList == (strOfNums ys).toList) = r := by
    rw [← hr, Bool.eq_iff_iff, beq_iff_eq, decide_eq_true_eq]
    exact ⟨fun h => str_inj hx hy (toList_inj h), fun h => by rw [h]⟩
  obtain ⟨s, hs⟩ : ∃ s, strOfNums xs = s := ⟨_, rfl⟩
  obtain ⟨t, ht⟩ : ∃ t, strOfNums ys = t := ⟨_, rfl⟩
  rw [hs] at r1 hS
  rw [ht] at r2 hS
  clear hA hB hs ht hn hm hx hy hr
  go_enter Try.func11, Try.ntmps11
  go_wp2
  go_ret
  exact ⟨rfl, rfl⟩

/-- What CopyBytes hands back: a row in memory of its own. -/
theorem copyB (xs : List Int) (A : Option Addr) (n c : Nat) (w : World) (hn : xs.length = n) (hl : n ≤ 140737488355328) (hA : Row w A (bV xs)) :
    Calls Try.prog 14 #[.slice A n c] w fun e w' => ∃ B d, e = .returned (.slice B n d) ∧ n ≤ d ∧ Row w' B (bV xs) ∧ Below w.heap.size w w' := by
  obtain ⟨i0, hi, hz0, hz1, hz2⟩ := info_parts Try.infoB
  have I0 := Lib.hid hi
  have I1 := Lib.hid hz0
  have I2 := Lib.hid hz1
  have I3 := Lib.hid hz2
  have HR := Lib.hid (hA.reads ((bV_len xs).trans hn))
  clear hi hz0 hz1 hz2
  go_enter Try.func14, Try.ntmps14
  go_wp2_with (first | (at_builtin; refine wpList_append_any _ rfl _ _ 22 rfl w.heap.size 5 i0 (.int .u8 0) 1 1 Try.underlying22 I0.out I1.out I2.out I3.out rfl (by decide) _ _ _ rfl (World.ownsRow_nil _ _ _ _) w.heap.size _ n _ (bV xs) rfl HR.out (bV_one xs) (by unfold maxLen; omega) (by omega) (Nat.le_refl _) ?_; intro v1 w1 ho1 hg1 hq1; clear hq1; have hb1 := below_grown (Below.refl w.heap.size w) hg1 (Nat.le_refl _) (fun g hg => by cases hg); simp only [Nat.zero_add, List.nil_append] at ho1))
  go_ret
  obtain ⟨B, d, hv, hd⟩ : ∃ B d, v1 = .slice B n d ∧ n ≤ d := by
    rcases ho1.2 with ⟨h1, h2⟩ | ⟨g2, cap, cur, h1, _, _, hc, _⟩
    · have h0 : n = 0 := by have := ho1.1; rw [h2] at this; simp at this; omega
      exact ⟨none, 0, by rw [h1, h0], by omega⟩
    · exact ⟨_, cap, h1, hc⟩
  subst hv
  exact ⟨B, d, rfl, hd, Row.of_own ho1, hb1⟩

end Go.Proofs.Ytindgcbnpbhciaa
