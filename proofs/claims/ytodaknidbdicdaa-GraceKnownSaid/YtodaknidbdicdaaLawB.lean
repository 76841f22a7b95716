/-
  GraceWaits.
-/
import Derived.Test.YtodaknidbdicdaaBookF
import Derived.Test.YtodaknidbdicdaaLawA
import Derived.WalkKit
import Derived.Deep.DeepMust
import Derived.WalkSpells
import Derived.WalkLawsBesides
import Derived.Handy
import Derived.Lib.Hide
import Derived.Deep.QuietTactic
import Derived.BigQuiet
namespace Go.Proofs.Ytodaknidbdicdaa
open Go.RowKit

theorem waiF_at {G : Gr} {c : Nat} (hC : G.C = 3) (hc : c < 3) : waiF G (c : Int) = ((G.L c).length : Int) := by
  unfold waiF; rw [decide_eq_true (by omega), cond_true, Int.toNat_natCast]
theorem waits_low (w : World) (b : Nat) (gs : List Nat) (G : Gr) (h : GrAt w b gs G) (hI : Inv G) (x d : Int) (hd : waiF G x = d) : Calls Try.prog 9 #[.pointer (some ⟨b, 0, none⟩), .int .i64 x] w fun e w' =>
    e = .returned (.int .i64 d) ∧ Below w.heap.size w w' := (waitsOf_any w b gs G h hI x).mono fun e w' ⟨h1, h2⟩ => by
  subst h2
  rw [← hd]
  exact ⟨h1, Below.refl _ _⟩
theorem Wd.below {W w w' : World} {b bb : Nat} {ws : List Nat} {G : Gr} {R : Nat → List Rec} (h : Wd W w b bb ws G R) (hb : Below w.heap.size w w') : Wd W w' b bb ws G R :=
  ⟨h.gr.below hb, h.bk.below hb, h.inv, h.c3, h.rel, h.low.trans (hb.mono h.low.size), h.lb, h.lw, h.nb⟩

set_option maxRecDepth 100000 in
set_option maxHeartbeats 4000000 in
theorem waits_law (L : Nat) (F : Nat → Nat → Int) (A : Option Addr) (cc : Nat) (hl : L ≤ maxLen) (w : World) (hA : Recs w A L 3 doK F) :
    Calls Try.prog 3 #[.slice A L cc] w fun e w' => e = .returned (.bool true) ∧ Below w.heap.size w w' := by
  have HA := Lib.hid hA
  unfold maxLen at hl
  clear hA
  have hnew := Lib.hid (fun v : World => new_ok 3 (by omega) (by omega) v)
  go_enter Try.func3, Try.ntmps3
  go_wp2_with (first | (go_at_call 6; (with_reducible refine (works_any _).mono ?_); rintro e w1 ⟨rfl, hB⟩) | (go_at_call 7; refine (hnew.out _).mono ?_; rintro e w2 ⟨b, rfl, hb, hO, hB2⟩; have hb' := Nat.le_trans hB.size hb; replace hB := hB.trans (hB2.mono hB.size)))
  have hM := BookAt.new w2
  have hz2 : w2.heap.size < (w2.alloc (.cells #[.int .i64 0, .int .i64 0, .int .i64 0, .slice none 0 0, .slice none 0 0, .slice none 0 0] 33)).heap.size := by rw [World.size_alloc]; exact Nat.lt_succ_self _
  have hO2 := hO.alloc (.cells #[.int .i64 0, .int .i64 0, .int .i64 0, .slice none 0 0, .slice none 0 0, .slice none 0 0] 33)
  have hB3 := hB.alloc hB.size (.cells #[.int .i64 0, .int .i64 0, .int .i64 0, .slice none 0 0, .slice none 0 0, .slice none 0 0] 33)
  have hbl := hO.lt
  have hO3 := hO2.widen (gs' := [b, w2.heap.size]) (fun _ => rfl) (List.mem_cons_self ..) (fun g hg => by
    rcases List.mem_cons.1 hg with rfl | hg
    · exact hO2.lt
    · rw [List.mem_singleton.1 hg]; exact hz2)
  have hW : Wd w _ b w2.heap.size [w2.heap.size] (newG 3) (fun _ => []) := ⟨hO3, hM, Inv.new (by omega) (by omega), rfl, fun c hc => ⟨rfl, fun j t r ht => by cases ht⟩, hB3, hb', fun g hg => by rw [List.mem_singleton.1 hg]; exact hB.size, fun hm => by have := List.mem_singleton.1 hm; omega⟩
  obtain ⟨bb, hbb⟩ : ∃ bb, bb = w2.heap.size := ⟨_, rfl⟩
  rw [← hbb] at hW ⊢
  have HW := Lib.hid hW
  clear hM hO2 hB3 hO3 hW hO hB hbb hz2 hbl hb hb' hB2
  go_loopw [6, 7] (fun j _ wr => ∃ (k : Nat) (G : Gr) (R : Nat → List Rec) (ws : List Nat), k ≤ L ∧ k ≤ 300 ∧ j = .int .i64 k ∧ Hid (G.E ≤ k) ∧ Hid (Wd w wr b bb ws G R)) (fun j _ _ => 300 - (intOf j).toNat)
  case atStart => exact ⟨0, _, _, _, by omega, by omega, rfl, Lib.hid (Nat.le_refl _), HW⟩
  case round =>
    clear HW
    obtain ⟨k, G, R, ws, hkL, hk300, rfl, hE, HW⟩ := hrel
    by_cases hlt : k < L ∧ k < 300
    · obtain ⟨hlt1, hlt2⟩ := hlt
      have k0 : (0 : Int) ≤ (k : Int) := by omega
      have k1 : (k : Int) < (L : Int) := by omega
      have k2 : (k : Int) < 300 := by omega
      obtain ⟨b0, off, rfl, K, X, I, d0, d1, d2⟩ := HA.out.three HW.out.low hlt1
      have hEb : Hid (G.E ≤ 1000000) := Lib.hid (by have := hE.out; omega)
      go_wp2_with (first | (go_at_call 8; ((with_reducible refine (bookDone_any _ _ HW.out hEb.out K X I).mono ?_); rintro e w3 ⟨rfl, G1, R1, ws1, hE1, hW1⟩)))
      have HE1 : Hid (G1.E ≤ k + 1) := Lib.hid (by have := hE.out; omega)
      have HW1 := Lib.hid hW1
      clear hW1 HW hE hE1 hEb d0 d1 d2
      go_loopw [7] (fun q w4 => ∃ c : Nat, c ≤ 3 ∧ q = .int .i64 c ∧ Hid (Wd w w4 b bb ws1 G1 R1)) (fun q _ => 3 - (intOf q).toNat)
      case atStart => exact ⟨0, by omega, rfl, HW1⟩
      case round =>
        clear HW1
        obtain ⟨c, hc3, rfl, HW1⟩ := hrel
        have c0 : (0 : Int) ≤ (c : Int) := by omega
        by_cases hc : c < 3
        · have c1 : (c : Int) < 3 := by omega
          obtain ⟨A1, cp, y1⟩ := HW1.out.bk.rowLen hc
          have hO := HW1.out.gr
          have hbl := HW1.out.bk.lt
          obtain ⟨n, hn⟩ : ∃ n, (R1 c).length = n := ⟨_, rfl⟩
          rw [hn] at y1
          have HQ : Hid (waiF G1 (c : Int) = (n : Int)) := Lib.hid (by rw [waiF_at HW1.out.c3 hc, ← hn, (HW1.out.rel c hc).1])
          have HI1 := Lib.hid HW1.out.inv
          clear hn
          go_wp2
          (refine wp_region_ext (wr.heap.size) (by kernel_rfl) (by kernel_rfl) (by go_size) (fun hxc hxf hxh hxn => ?_); (repeat (first | go_big_quiet_step (first | (go_at_call 9; exact ext_call (waits_low _ b _ _ (hO.below (Ext.below _)) HI1.out (c : Int) (n : Int) HQ.out))) | quiet_step (first | (go_at_call 9; exact ext_call (waits_low _ b _ _ (hO.below (Ext.below _)) HI1.out (c : Int) (n : Int) HQ.out))))); refine wpQuiet_nil ?_; intro w1 hs1; clear hxc hxf hxh hxn; obtain ⟨hb1, hz1, hc1, hf1⟩ := ext_known hs1 (wr.heap.size) (by go_size); clear hs1)
          go_wp2
          go_roundw
          case rel => exact ⟨c + 1, by omega, by go_num, Lib.hid (HW1.out.below hb1)⟩
          case measure => simp [intOf]; omega
        · obtain rfl : c = 3 := by omega
          go_wp2
          go_roundw
          case rel => exact ⟨k + 1, G1, R1, ws1, by omega, by omega, by go_num, HE1, HW1⟩
          case measure => simp [intOf]; omega
    · have k0 : (0 : Int) ≤ (k : Int) := by omega
      have hB := HW.out.low
      rcases (by omega : (¬ (k : Int) < (L : Int)) ∨ ((k : Int) < (L : Int) ∧ ¬ (k : Int) < 300)) with e1 | ⟨e1, e2⟩
      all_goals
        go_wp2
        go_ret
        exact ⟨rfl, hB⟩

end Go.Proofs.Ytodaknidbdicdaa
