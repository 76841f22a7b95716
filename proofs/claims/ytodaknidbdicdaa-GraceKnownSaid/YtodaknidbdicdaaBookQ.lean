/-
  The book's polled.
-/
import Derived.Test.YtodaknidbdicdaaBookW
import Derived.Test.YtodaknidbdicdaaEqInts
import Derived.Test.YtodaknidbdicdaaExt
import Derived.WalkKit
import Derived.Deep.DeepMust
import Derived.WalkSpells
import Derived.WalkLawsBesides
import Derived.Handy
import Derived.Lib.Hide
import Derived.Deep.QuietTactic
import Derived.BigQuiet
namespace Go.Proofs.Ytodaknidbdicdaa
open Go.RowKit

section
variable {bb : Nat} {ws : List Nat} {D : Nat → Int} {R : Nat → List Rec}
theorem recA_at (r : Rec) (j : Nat) (hj : j < 17) : (recA r)[j]? = some ((recA r)[j]'hj) := Array.getElem?_eq_getElem hj
set_option maxRecDepth 100000 in
set_option maxHeartbeats 4000000 in
theorem polled_any (w : World) (h : BookAt w bb ws D R) (c : Nat) (hc : c < 3) (l : List Int) (A : Option Addr) (cc : Nat) (hA : Row w A (intsV l)) (hne : 0 < l.length → ∀ g off, A = some ⟨g, off, none⟩ → g ∉ ws) (hn : (R c).length ≤ 1000000) (hl : l.length ≤ (R c).length)
    (hid : l = ((R c).take l.length).map (·.id)) (hf : ∀ (j : Nat) (r : Rec), j < l.length → (R c)[j]? = some r → ∀ q, q < 3 → r.ins q = false ∧ r.sil q = false) :
    Calls Try.prog 27 #[.pointer (some ⟨bb, 0, none⟩), .int .i64 (c : Int), .slice A l.length cc] w fun e w' => e = .returned (.bool true) ∧ BookAt w' bb ws D (upd R c ((R c).drop l.length)) ∧ Rws ws w w' := by
  have HB := Lib.hid h
  have HF := Lib.hid hf
  have HI := Lib.hid hid
  have HA := Lib.hid hA
  have HE := Lib.hid hne
  obtain ⟨L, hL⟩ : ∃ L, l.length = L := ⟨_, rfl⟩
  have HL := Lib.hid hL
  have hl' : Hid (L ≤ (R c).length) := Lib.hid (by rw [← hL]; exact hl)
  have hL6 : L ≤ 1000000 := by omega
  rw [hL]
  have c0 : (0 : Int) ≤ (c : Int) := by omega
  have c1 : (c : Int) < 3 := by omega
  have HS : Hid (BookAt w bb ws D (upd R c ((R c).drop 0))) := Lib.hid (by rw [List.drop_zero, upd_id]; exact h)
  have hn := Lib.hid hn
  clear h hf hid hA hne hL hl HB
  go_enter Try.func27, Try.ntmps27
  go_wp2
  go_loopw [7, 8, 9] (fun q _ _ wr => ∃ j : Nat, j ≤ L ∧ q = .int .i64 j ∧ Hid (BookAt wr bb ws D (upd R c ((R c).drop j))) ∧ Hid (Row wr A (intsV l)) ∧ Rws ws w wr) (fun q _ _ _ => L - (intOf q).toNat)
  case atStart => exact ⟨0, by omega, rfl, HS, HA, Rws.refl _ _⟩
  case round =>
    clear HS HA
    obtain ⟨j, hj, rfl, HB, HA, hT⟩ := hrel
    have j0 : (0 : Int) ≤ (j : Int) := by omega
    by_cases hjL : j < L
    · have j1 : (j : Int) < (L : Int) := by omega
      have hjR : j < (R c).length := by have := hl'.out; omega
      obtain ⟨r, hr⟩ : ∃ r, (R c)[j] = r := ⟨_, rfl⟩
      have hrd : (R c).drop j = r :: (R c).drop (j + 1) := by rw [List.drop_eq_getElem_cons hjR, hr]
      obtain ⟨v, β, k1, k2, k3, -, k5⟩ := HB.out.cV hc
      rw [upd_same] at k2
      obtain ⟨g, off, cp, rfl, rfl, kr⟩ := k2.at_ (by rw [hrd]; simp)
      have hlen : ((R c).drop j).length = (R c).length - j := List.length_drop
      obtain ⟨n, hn'⟩ : ∃ n, ((R c).drop j).length = n := ⟨_, rfl⟩
      rw [hn'] at k1 kr
      have hn1 : 1 ≤ n := by omega
      have hnc := kr.le
      have n0 : ((n : Int) == 0) = false := by
        have : ¬ (n : Int) = 0 := by omega
        exact beq_eq_false_iff_ne.2 this
      have n1 : (0 : Int) < (n : Int) := by omega
      have n2 : (1 : Int) ≤ (n : Int) := by omega
      have n3 : (n : Int) ≤ (cp : Int) := by omega
      have hr0 : ((R c).drop j)[0]? = some r := by rw [hrd]; rfl
      have kc := fun (i : Nat) (hi : i < 17) => (kr.cell hr0 hi).trans (recA_at r i hi)
      have d0 := kc 0 (by omega)
      have d1 := kc 1 (by omega)
      have d2 := kc 2 (by omega)
      have d3 := kc 3 (by omega)
      have d4 := kc 4 (by omega)
      have d5 := kc 5 (by omega)
      have d6 := kc 6 (by omega)
      have d7 := kc 7 (by omega)
      have d8 := kc 8 (by omega)
      have d9 := kc 9 (by omega)
      have d10 := kc 10 (by omega)
      have d11 := kc 11 (by omega)
      have d12 := kc 12 (by omega)
      have d13 := kc 13 (by omega)
      have d14 := kc 14 (by omega)
      have d15 := kc 15 (by omega)
      have d16 := kc 16 (by omega)
      simp only [Nat.zero_mul, Nat.add_zero] at d0 d1 d2 d3 d4 d5 d6 d7 d8 d9 d10 d11 d12 d13 d14 d15 d16
      simp only [recA, List.getElem_toArray, List.getElem_cons_zero, List.getElem_cons_succ] at d0 d1 d2 d3 d4 d5 d6 d7 d8 d9 d10 d11 d12 d13 d14 d15 d16
      obtain ⟨gl, ol, rfl, hgl, hcl⟩ := HA.out (by rw [intsV_len, HL.out]; omega)
      have hlj : l[j]? = some r.id := by
        have h1 := HI.out
        rw [HL.out] at h1
        rw [h1, List.getElem?_map, List.getElem?_take_of_lt hjL, List.getElem?_eq_getElem hjR, hr]
        rfl
      have dl := hcl j (.int .i64 r.id) (by show (l.map _)[j]? = _; rw [List.getElem?_map, hlj]; rfl)
      have hidd : (r.id != r.id) = false := by simp
      have hfr := Lib.hid (HF.out j r (by rw [HL.out]; exact hjL) (by rw [List.getElem?_eq_getElem hjR, hr]))
      have HKR := Lib.hid kr
      have HK3 := Lib.hid k3
      have HK5 := Lib.hid k5
      have hgw := kr.lt
      have hbw := HB.out.lt
      have hfb := HB.out.frz
      clear hcl k2 hlen hn' hr0 kc k3 k5 kr
      have e1 := Lib.hid d1
      have e2 := Lib.hid d2
      have e3 := Lib.hid d3
      have e4 := Lib.hid d4
      have e5 := Lib.hid d5
      have e6 := Lib.hid d6
      have e7 := Lib.hid d7
      have e8 := Lib.hid d8
      have e9 := Lib.hid d9
      have e10 := Lib.hid d10
      have e11 := Lib.hid d11
      have e12 := Lib.hid d12
      have e13 := Lib.hid d13
      have e14 := Lib.hid d14
      have e15 := Lib.hid d15
      have e16 := Lib.hid d16
      clear d1 d2 d3 d4 d5 d6 d7 d8 d9 d10 d11 d12 d13 d14 d15 d16
      go_wp2
      (refine wp_region_ext (wr.heap.size) (by kernel_rfl) (by kernel_rfl) (by go_size) (fun hxc hxf hxh hxn => ?_); (repeat (first | go_big_quiet_step (fail) | quiet_step (fail))); refine wpQuiet_nil ?_; intro w1 hs1; clear hxc hxf hxh hxn; obtain ⟨hb1, hz1, hc1, hf1⟩ := ext_known hs1 (wr.heap.size) (by go_size); clear hs1)
      have d0 := (hc1 g off hgw).trans d0
      have k1' := (hc1 bb (3 + c) hbw).trans k1
      have d1 := (hc1 g (off + 1) hgw).trans e1.out
      have d2 := (hc1 g (off + 2) hgw).trans e2.out
      have d3 := (hc1 g (off + 3) hgw).trans e3.out
      have d4 := (hc1 g (off + 4) hgw).trans e4.out
      have d5 := (hc1 g (off + 5) hgw).trans e5.out
      have d6 := (hc1 g (off + 6) hgw).trans e6.out
      have d7 := (hc1 g (off + 7) hgw).trans e7.out
      have d8 := (hc1 g (off + 8) hgw).trans e8.out
      have d9 := (hc1 g (off + 9) hgw).trans e9.out
      have d10 := (hc1 g (off + 10) hgw).trans e10.out
      have d11 := (hc1 g (off + 11) hgw).trans e11.out
      have d12 := (hc1 g (off + 12) hgw).trans e12.out
      have d13 := (hc1 g (off + 13) hgw).trans e13.out
      have d14 := (hc1 g (off + 14) hgw).trans e14.out
      have d15 := (hc1 g (off + 15) hgw).trans e15.out
      have d16 := (hc1 g (off + 16) hgw).trans e16.out
      clear hc1 hf1 e1 e2 e3 e4 e5 e6 e7 e8 e9 e10 e11 e12 e13 e14 e15 e16
      go_wp2
      have hX := Blk.new w1 64 (recA r)
      obtain ⟨w2, hw2⟩ : ∃ w2, w2 = w1.alloc (.cells (recA r) 64) := ⟨_, rfl⟩
      have hz2 : w1.heap.size < w2.heap.size := by rw [hw2, World.size_alloc]; exact Nat.lt_succ_self _
      have hb2 : Below wr.heap.size wr w2 := by rw [hw2]; exact hb1.alloc hb1.size _
      rw [← hw2] at hX
      have hw2' : w1.alloc (.cells #[.int .i64 r.id, .bool (r.ins 0), .bool (r.ins 1), .bool (r.ins 2), .bool (r.ins 3), .bool (r.ins 4), .bool (r.ins 5), .bool (r.ins 6), .bool (r.ins 7), .bool (r.sil 0), .bool (r.sil 1), .bool (r.sil 2), .bool (r.sil 3), .bool (r.sil 4), .bool (r.sil 5), .bool (r.sil 6), .bool (r.sil 7)] 64) = w2 := hw2.symm
      rw [hw2']
      clear hw2 hw2' d1 d2 d3 d4 d5 d6 d7 d8 d9 d10 d11 d12 d13 d14 d15 d16 d0
      go_loopw [9] (fun q w3 => ∃ k : Nat, k ≤ 3 ∧ q = .int .i64 k ∧ w3 = w2) (fun q _ => 3 - (intOf q).toNat)
      case atStart => exact ⟨0, by omega, rfl, rfl⟩
      case round =>
        obtain ⟨k, hk3, rfl, e3⟩ := hrel
        replace e3 := e3.symm
        subst e3
        have m0 : (0 : Int) ≤ (k : Int) := by omega
        by_cases hk : k < 3
        · have m1 : (k : Int) < 3 := by omega
          have m2 : (k : Int) < 8 := by omega
          have hfk := hfr.out k hk
          have y1 : w2.cell? ⟨w1.heap.size, 1 + k, none⟩ = some (.bool false) := by
            rw [hX.cell, ← hfk.1]
            match k, hk with
            | 0, _ | 1, _ | 2, _ => rfl
          have y2 : w2.cell? ⟨w1.heap.size, 9 + k, none⟩ = some (.bool false) := by
            rw [hX.cell, ← hfk.2]
            match k, hk with
            | 0, _ | 1, _ | 2, _ => rfl
          clear hfk
          go_wp2
          go_roundw
          case rel => exact ⟨k + 1, by omega, by go_num, trivial⟩
          case measure => simp [intOf]; omega
        · obtain rfl : k = 3 := by omega
          have x1 := (hb2.cell (p := ⟨bb, 3 + c, none⟩) hbw).trans k1
          have x2 := (hb2.frozen (p := ⟨bb, 3 + c, none⟩) hbw).trans (hfb (3 + c))
          have HX1 : Hid (∀ w3 : World, w2.heap.size ≤ w3.heap.size → (∀ i, i < w2.heap.size → w3.heap[i]? = w2.heap[i]?) → BookAt (w3.setCell ⟨bb, 3 + c, none⟩ (.slice (if cp = 1 then some ⟨g, off, none⟩ else some ⟨g, off + 17, none⟩) (n - 1) (cp - 1))) bb ws D (upd R c ((R c).drop (j + 1)))) := Lib.hid (fun w3 hz3 hk3 => by
            have hw3 : ∀ i, i < wr.heap.size → w3.heap[i]? = wr.heap[i]? := fun i hi => (hk3 i (Nat.lt_of_lt_of_le hi hb2.size)).trans (hb2.block i hi)
            have hkr := HKR.out
            rw [hrd] at hkr
            have h5 := HK5.out w3 _ (some g) ((R c).drop (j + 1)) ws (Nat.le_trans hb2.size hz3) (fun i hi _ => hw3 i hi) (RecRow.tail (hkr.heap (w' := w3) (hw3 g hgw))) (.inl rfl) (fun g' hg' => (HK3.out g' hg').1) (fun _ h => h) (fun g' hg' => Nat.lt_of_lt_of_le (HB.out.lts g' hg') (Nat.le_trans hb2.size hz3))
            rw [upd_upd] at h5
            exact h5)
          have HT2 : Hid (Rws ws w w2) := Lib.hid (hT.trans (Rws.of_below ws hb2))
          have HA2 : Hid (Row w2 (some ⟨gl, ol, none⟩) (intsV l)) := Lib.hid (Row.below HA.out hb2)
          have hbm := Lib.hid HB.out.mem
          have hgl2 := Lib.hid hgl
          clear hX hb2 hz2 hb1 hz1 hT
          go_wp2
          go_region
          all_goals go_wp2
          all_goals refine ⟨⟨j + 1, by omega, by go_num, Lib.hid (HX1.out w2 (Nat.le_refl _) (fun _ _ => rfl)).drew, Lib.hid (Row.drew (Row.rws HA2.out ((Rws.refl ws w2).set hbm.out _ _) (fun hp g' off' e => HE.out (by rw [intsV_len] at hp; exact hp) g' off' e))), (HT2.out.trans ((Rws.refl ws w2).set hbm.out _ _)).drew⟩, by simp [intOf]; omega⟩
    · obtain rfl : j = L := by omega
      go_wp2
      go_ret
      exact ⟨rfl, HB.out, hT⟩
end

end Go.Proofs.Ytodaknidbdicdaa
