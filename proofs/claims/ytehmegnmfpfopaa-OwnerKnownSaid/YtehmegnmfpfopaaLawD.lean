/-
  OwnerKnown.
-/
import Derived.Test.YtehmegnmfpfopaaLawA
import Derived.Test.YtehmegnmfpfopaaNil
import Derived.WalkKit
import Derived.Deep.DeepMust
import Derived.WalkSpells
import Derived.WalkLawsBesides
import Derived.Handy
import Derived.Lib.Hide
import Derived.Deep.QuietTactic
import Derived.BigQuiet
namespace Go.Proofs.Ytehmegnmfpfopaa
open Go.RowKit

theorem Try.infoDo : (Try.prog.info? 31).map (fun i => (i.zero, i.size, i.bytes)) = some (some (.agg #[.int .i64 0, .int .i64 0, .int .i64 0, .int .i64 0, .int .i64 0]), 5, 40) := by kernel_rfl
def intsV (zs : List Int) : List Value := zs.map fun z => .int .i64 z
theorem Row.of_blkI {w : World} {g : Nat} {t : TypeId} {cs : Array Value} (h : Blk w g t cs) {xs : List Value} (e : cs.toList = xs) : Row w (some ⟨g, 0, none⟩) xs := fun _ =>
  ⟨g, 0, rfl, h.lt, fun j u hu => by rw [Nat.zero_add, h.cell, ← Array.getElem?_toList, e]; exact hu⟩
theorem recs_of_row {w : World} {A : Option Addr} {n : Nat} {zs : List Int} (h : Row w A (intsV zs)) (hl : zs.length = n * 5) (h64 : ∀ z ∈ zs, w64 z) : Recs w A n 5 doK (fun i j => zs.getD (i * 5 + j) 0) := fun hp => by
  obtain ⟨g, off, e, hg, hc⟩ := h (by simp [intsV]; omega)
  refine ⟨g, off, e, hg, fun i hi j hj => ?_⟩
  have hlt : i * 5 + j < zs.length := by omega
  have h1 : zs.getD (i * 5 + j) 0 = zs[i * 5 + j] := by rw [List.getD_eq_getElem?_getD, List.getElem?_eq_getElem hlt]; rfl
  have ek : doK.getD j .i64 = .i64 := by
    match j, hj with
    | 0, _ | 1, _ | 2, _ | 3, _ | 4, _ => rfl
  refine ⟨?_, by rw [ek]; exact h64 _ (by show zs.getD (i * 5 + j) 0 ∈ zs; rw [h1]; exact List.getElem_mem hlt)⟩
  show w.cell? ⟨g, off + i * 5 + j, none⟩ = some (.int (doK.getD j .i64) (zs.getD (i * 5 + j) 0))
  rw [ek, h1, Nat.add_assoc]
  exact hc (i * 5 + j) _ (by unfold intsV; rw [List.getElem?_map, List.getElem?_eq_getElem hlt]; rfl)

theorem intsV_one {zs : List Int} : ∀ u ∈ intsV zs, u.oneCell' = true := fun u hu => by
  obtain ⟨x, -, rfl⟩ := List.mem_map.1 hu
  rfl
theorem intsV_append (xs ys : List Int) : intsV (xs ++ ys) = intsV xs ++ intsV ys := List.map_append
theorem ints_reads {w : World} {g n : Nat} {t : TypeId} {cs : Array Value} {zs : List Int} (h : Blk w g t cs) (e : cs.toList = intsV zs) (hl : zs.length = n * 5) : Reads w w.heap.size 5 (some ⟨g, 0, none⟩) n (intsV zs) :=
  ⟨by unfold intsV; rw [List.length_map, hl], fun _ => ⟨_, rfl, h.lt, fun j u hu => by rw [addr_add, Nat.zero_add, h.cell, ← Array.getElem?_toList, e]; exact hu⟩⟩
theorem Row.of_own5 {w : World} {A : Option Addr} {xs : List Value} {base : Nat} {e : TypeId} {n c : Nat} (h : w.ownsRow base e 5 (.slice A n c) n xs) : Row w A xs := fun hp => by
  have hl := h.1
  obtain ⟨g, cap, hv, _, hlt⟩ := h.form (by omega)
  have hA : A = some ⟨g, 0, none⟩ := by injection hv
  subst hA
  refine ⟨g, 0, rfl, hlt, fun j u hu => ?_⟩
  have := h.cells (g := g) rfl j u hu
  rwa [addr_add] at this
theorem Row.slice5 {w : World} {xs : List Value} {base : Nat} {e : TypeId} {v : Value} {n : Nat} (h : w.ownsRow base e 5 v n xs) : ∃ A c, v = .slice A n c ∧ Row w A xs := by
  have h' := h
  obtain ⟨_, ⟨rfl, rfl⟩ | ⟨g, cap, cur, rfl, _⟩⟩ := h
  · exact ⟨none, 0, rfl, Row.of_own5 h'⟩
  · exact ⟨_, cap, rfl, Row.of_own5 h'⟩
/-- What a round appends. -/
def nwL (i : Int) : List Int := [0, i % 3, i - 2, i - 1, 0, 1, i % 4, i - 3, 0, 0]
theorem nwL_64 {i : Int} (h1 : 0 ≤ i) (h2 : i < 20) : ∀ z ∈ nwL i, w64 z := fun z hz => by
  unfold nwL at hz
  simp only [List.mem_cons, List.not_mem_nil, or_false] at hz
  refine w64_small ?_ ?_ <;> omega
def lsL : List Int := [2, 0, 0, 1, 17, 2, 0, 0, 0, 1, 2, 0, 0, 4, 4, 2, 0, 0, 5, 16, 0, -1, 0, 1, 0, 0, 300, 0, 1, 0, 0, 0, 0, 17, 0, 0, 0, 0, 16, 0, 0, 0, 16, 1, 0]
theorem lsL_64 : ∀ z ∈ lsL, w64 z := fun z hz => by
  unfold lsL at hz
  simp only [List.mem_cons, List.not_mem_nil, or_false] at hz
  refine w64_small ?_ ?_ <;> omega
def lsA : Array Value := #[.int .i64 2, .int .i64 0, .int .i64 0, .int .i64 1, .int .i64 17, .int .i64 2, .int .i64 0, .int .i64 0, .int .i64 0, .int .i64 1, .int .i64 2, .int .i64 0, .int .i64 0, .int .i64 4, .int .i64 4, .int .i64 2, .int .i64 0, .int .i64 0, .int .i64 5, .int .i64 16, .int .i64 0, .int .i64 (-1), .int .i64 0, .int .i64 1, .int .i64 0, .int .i64 0, .int .i64 300, .int .i64 0, .int .i64 1, .int .i64 0, .int .i64 0, .int .i64 0, .int .i64 0, .int .i64 17, .int .i64 0, .int .i64 0, .int .i64 0, .int .i64 0, .int .i64 16, .int .i64 0, .int .i64 0, .int .i64 0, .int .i64 16, .int .i64 1, .int .i64 0]
def szA : Array Value := #[.int .i64 0, .int .i64 1, .int .i64 1, .int .i64 0, .int .i64 257, .int .i64 1, .int .i64 1, .int .i64 17, .int .i64 256, .int .i64 16, .int .i64 1, .int .i64 1, .int .i64 3, .int .i64 16, .int .i64 (-1), .int .i64 (-1)]
theorem szA_at {i : Nat} (h : i < 8) : ∃ x y : Int, szA[i * 2]? = some (.int .i64 x) ∧ szA[i * 2 + 1]? = some (.int .i64 y) := by
  match i, h with
  | 0, _ | 1, _ | 2, _ | 3, _ | 4, _ | 5, _ | 6, _ | 7, _ => exact ⟨_, _, rfl, rfl⟩
theorem lsA_out : lsA = #[.int .i64 2, .int .i64 0, .int .i64 0, .int .i64 1, .int .i64 17, .int .i64 2, .int .i64 0, .int .i64 0, .int .i64 0, .int .i64 1, .int .i64 2, .int .i64 0, .int .i64 0, .int .i64 4, .int .i64 4, .int .i64 2, .int .i64 0, .int .i64 0, .int .i64 5, .int .i64 16, .int .i64 0, .int .i64 (-1), .int .i64 0, .int .i64 1, .int .i64 0, .int .i64 0, .int .i64 300, .int .i64 0, .int .i64 1, .int .i64 0, .int .i64 0, .int .i64 0, .int .i64 0, .int .i64 17, .int .i64 0, .int .i64 0, .int .i64 0, .int .i64 0, .int .i64 16, .int .i64 0, .int .i64 0, .int .i64 0, .int .i64 16, .int .i64 1, .int .i64 0] := rfl
theorem szA_out : szA = #[.int .i64 0, .int .i64 1, .int .i64 1, .int .i64 0, .int .i64 257, .int .i64 1, .int .i64 1, .int .i64 17, .int .i64 256, .int .i64 16, .int .i64 1, .int .i64 1, .int .i64 3, .int .i64 16, .int .i64 (-1), .int .i64 (-1)] := rfl
theorem all_app {xs ys : List Int} (h1 : ∀ z ∈ xs, w64 z) (h2 : ∀ z ∈ ys, w64 z) : ∀ z ∈ xs ++ ys, w64 z := fun z hz => (List.mem_append.1 hz).elim (h1 z) (h2 z)

set_option maxRecDepth 100000 in
set_option maxHeartbeats 4000000 in
theorem known_any (w : World) : Calls Try.prog 6 #[] w fun e w' => e = .returned (.bool true) ∧ Below w.heap.size w w' := by
  obtain ⟨ti, hi0, hz0, hz1, hz2⟩ := info_parts Try.infoDo
  have J0 := Lib.hid hi0
  have J1 := Lib.hid hz0
  have J2 := Lib.hid hz1
  have J3 := Lib.hid hz2
  clear hi0 hz0 hz1 hz2
  go_enter Try.func6, Try.ntmps6
  go_wp2
  go_loopw [1, 2] (fun v q wr => ∃ i : Nat, i ≤ 2 ∧ q = .int .i64 i ∧ Hid (IsNone wr v) ∧ Below w.heap.size w wr) (fun _ q _ => 2 - (intOf q).toNat)
  case atStart => exact ⟨0, by omega, rfl, Lib.hid (.inl rfl), Below.refl _ _⟩
  case round =>
    obtain ⟨i, hi2, rfl, hN, hB⟩ := hrel
    have i0 : (0 : Int) ≤ (i : Int) := by omega
    by_cases hi : i < 2
    · have i1 : (i : Int) < 2 := by omega
      go_wp2_with (first | (go_at_call 12; (with_reducible refine (clear_none _ _ hN.out (-1) 0).mono ?_); rintro e w1 ⟨rfl, hb1⟩; replace hB := hB.trans (hb1.mono hB.size); have hN := Lib.hid (hN.out.below hb1); clear hb1) | (go_at_call 14; (with_reducible refine (move_none _ _ hN.out 0 0).mono ?_); rintro e wq ⟨rfl, hwq⟩; replace hwq := hwq.symm; subst hwq) | (go_at_call 18; (with_reducible refine (of_none _ _ hN.out 0 0).mono ?_); rintro e wq ⟨rfl, hwq⟩; replace hwq := hwq.symm; subst hwq) | (go_at_call 20; (with_reducible refine (count_none _ _ hN.out 1).mono ?_); rintro e wq ⟨rfl, hwq⟩; replace hwq := hwq.symm; subst hwq) | (go_at_call 10; (with_reducible refine (set_none _ _ hN.out (-1) 0 0).mono ?_); rintro e w2 ⟨rfl, hb2⟩; replace hB := hB.trans (hb2.mono hB.size); have hN := Lib.hid (hN.out.below hb2); clear hb2) | (go_at_call 19; (with_reducible refine (empty_none _ _ hN.out 0).mono ?_); rintro e w3 ⟨rfl, hb3⟩; replace hB := hB.trans (hb3.mono hB.size); clear hb3))
      go_roundw
      case rel => exact ⟨i + 1, by omega, by go_num, Lib.hid (.inr ⟨_, rfl, Blk.new _ _ _⟩), hB.alloc hB.size _⟩
      case measure => simp [intOf]; omega
    · have i1 : ¬ (i : Int) < 2 := by omega
      clear hN
      obtain rfl : i = 2 := by omega
      go_wp2
      go_loopw [7, 8] (fun v q wr => ∃ (i : Nat) (zs : List Int), i ≤ 20 ∧ q = .int .i64 i ∧ zs.length = 2 * i * 5 ∧ Hid (∀ z ∈ zs, w64 z) ∧ Hid (wr.ownsRow w.heap.size 31 5 v (2 * i) (intsV zs)) ∧ Below w.heap.size w wr) (fun _ q _ => 20 - (intOf q).toNat)
      case atStart => exact ⟨0, [], by omega, rfl, rfl, Lib.hid (fun z hz => by cases hz), Lib.hid (World.ownsRow_nil _ _ _ _), hB⟩
      case round =>
        clear hB
        obtain ⟨i, zs, hi20, rfl, hlen, h64, HO, hB⟩ := hrel
        have i0 : (0 : Int) ≤ (i : Int) := by omega
        by_cases hi : i < 20
        · have i1 : (i : Int) < 20 := by omega
          have HO1 := Lib.hid (HO.out.alloc (.cells #[.int .i64 0, .int .i64 ((i : Int) % 3), .int .i64 ((i : Int) - 2), .int .i64 ((i : Int) - 1), .int .i64 0, .int .i64 1, .int .i64 ((i : Int) % 4), .int .i64 ((i : Int) - 3), .int .i64 0, .int .i64 0] 31))
          have HRd := Lib.hid (ints_reads (n := 2) (zs := nwL (i : Int)) (Blk.new wr 31 #[.int .i64 0, .int .i64 ((i : Int) % 3), .int .i64 ((i : Int) - 2), .int .i64 ((i : Int) - 1), .int .i64 0, .int .i64 1, .int .i64 ((i : Int) % 4), .int .i64 ((i : Int) - 3), .int .i64 0, .int .i64 0]) rfl rfl)
          have hB1 := hB.alloc hB.size (.cells #[.int .i64 0, .int .i64 ((i : Int) % 3), .int .i64 ((i : Int) - 2), .int .i64 ((i : Int) - 1), .int .i64 0, .int .i64 1, .int .i64 ((i : Int) % 4), .int .i64 ((i : Int) - 3), .int .i64 0, .int .i64 0] 31)
          go_wp2_with (first | (at_builtin; refine wpList_append_any _ rfl _ _ 22 rfl w.heap.size 31 ti (.agg #[.int .i64 0, .int .i64 0, .int .i64 0, .int .i64 0, .int .i64 0]) 5 40 Try.underlying22 J0.out J1.out J2.out J3.out rfl (by decide) _ (2 * i) (intsV zs) rfl HO1.out _ (some ⟨wr.heap.size, 0, none⟩) 2 2 (intsV (nwL (i : Int))) rfl HRd.out intsV_one (by unfold maxLen; omega) (by omega) hB1.size ?_; intro v1 w3 ho3 hg3 hq3; clear hq3; rw [← intsV_append] at ho3; have hB3 := own_belowR hB1 hg3 HO1.out hB1.size (Nat.le_refl _)))
          go_roundw
          case rel => exact ⟨i + 1, zs ++ nwL (i : Int), by omega, by go_num, by rw [List.length_append, hlen]; show _ + 10 = _; omega, Lib.hid (all_app h64.out (nwL_64 i0 i1)), Lib.hid (by rw [show 2 * (i + 1) = 2 * i + 2 by omega]; exact ho3), hB3⟩
          case measure => simp [intOf]; omega
        · obtain rfl : i = 20 := by omega
          have HO1 := Lib.hid (HO.out.alloc (.cells lsA 31))
          have HRd := Lib.hid (ints_reads (n := 9) (zs := lsL) (Blk.new wr 31 lsA) rfl rfl)
          have hB1 := hB.alloc hB.size (.cells lsA 31)
          rw [lsA_out] at HO1 HRd hB1
          go_wp2_with (first | (at_builtin; refine wpList_append_any _ rfl _ _ 22 rfl w.heap.size 31 ti (.agg #[.int .i64 0, .int .i64 0, .int .i64 0, .int .i64 0, .int .i64 0]) 5 40 Try.underlying22 J0.out J1.out J2.out J3.out rfl (by decide) _ (2 * 20) (intsV zs) rfl HO1.out _ (some ⟨wr.heap.size, 0, none⟩) 9 9 (intsV lsL) rfl HRd.out intsV_one (by unfold maxLen; omega) (by omega) hB1.size ?_; intro v1 w3 ho3 hg3 hq3; clear hq3; rw [← intsV_append] at ho3; have hB3 := own_belowR hB1 hg3 HO1.out hB1.size (Nat.le_refl _); obtain ⟨A1, c1, rfl, hr1⟩ := Row.slice5 ho3; clear ho3 hg3 HO1 HRd hB1 HO hB))
          have hR := (recs_of_row (n := 2 * 20 + 9) hr1 (by rw [List.length_append, hlen]; rfl) (all_app h64.out lsL_64)).alloc (.cells szA 48)
          have hSz := Blk.new w3 48 szA
          replace hB3 := hB3.alloc hB3.size (.cells szA 48)
          rw [szA_out] at hR hSz hB3
          rw [← szA_out] at hSz
          obtain ⟨q, hq⟩ : ∃ q, q = w3.heap.size := ⟨_, rfl⟩
          rw [← hq] at hSz ⊢
          clear hq hr1 h64 hlen
          generalize (fun i j => (zs ++ lsL).getD (i * 5 + j) 0) = F at hR
          go_loopw [10] (fun j wr => ∃ k : Nat, k ≤ 8 ∧ j = .int .i64 k ∧ Hid (Blk wr q 48 szA) ∧ Hid (Recs wr A1 (2 * 20 + 9) 5 doK F) ∧ Below w.heap.size w wr) (fun j _ => 8 - (intOf j).toNat)
          case atStart => exact ⟨0, by omega, rfl, Lib.hid hSz, Lib.hid hR, hB3⟩
          case round =>
            clear hSz hR hB3
            obtain ⟨k, hk8, rfl, hS, hR, hB⟩ := hrel
            have k0 : (0 : Int) ≤ (k : Int) := by omega
            by_cases hk : k < 8
            · have k1 : (k : Int) < 8 := by omega
              obtain ⟨x, y, ex, ey⟩ := szA_at hk
              have hql := hS.out.lt
              have x0 := (hS.out.cell (k * 2)).trans ex
              have x1 := (hS.out.cell (k * 2 + 1)).trans ey
              go_wp2
              (refine wp_region_tail 11 (wr.heap.size) ?_ ?_ ?_ ?_ ?_ ?_ ?_; kernel_rfl; kernel_rfl; kernel_rfl; kernel_rfl; kernel_rfl; go_size; intro hxc hxf hxh hxn; simp only [List.take, List.drop]; (repeat (first | go_big_quiet_step (fail) | quiet_step (fail))); refine wpQuiet_nil ?_; intro w1 hs1; clear hxc hxf hxh hxn; obtain ⟨hb1, hz1, hc1, hf1⟩ := ext_known hs1 (wr.heap.size) (by go_size); clear hs1)
              go_wp2_with (first | (go_at_call 3; refine (plays_any x y (2 * 20 + 9) F A1 c1 (by unfold maxLen; omega) _ (hR.out.below hb1)).mono ?_; rintro e w4 ⟨rfl, hb4⟩; replace hB := hB.trans ((hb1.trans (hb4.mono hb1.size)).mono hB.size); have hS4 := (hS.out.below hb1).below hb4; have hR4 := (hR.out.below hb1).below hb4))
              go_roundw
              case rel => exact ⟨k + 1, by omega, by go_num, Lib.hid hS4, Lib.hid hR4, hB⟩
              case measure => simp [intOf]; omega
            · have k1 : ¬ (k : Int) < 8 := by omega
              obtain rfl : k = 8 := by omega
              go_wp2_with (first | (go_at_call 17; (with_reducible refine (works_any _).mono ?_); rintro e w4 ⟨rfl, hb4⟩; replace hB := hB.trans (hb4.mono hB.size)))
              go_ret
              exact ⟨rfl, hB⟩

end Go.Proofs.Ytehmegnmfpfopaa
