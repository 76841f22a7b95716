/-
  The walks of the laws CountPacks and CountHeads.
-/
import Derived.Test.YtmljiklddjladaaLawA
namespace Go.Proofs.Ytmljiklddjladaa
open Go.RowKit

theorem packF_bd (i o : Int) (f l : Bool) : 0 ≤ (packF i o f l).1 ∧ (packF i o f l).1 < 262144 := by
  unfold packF
  split
  · rename_i h
    exact packW_bd h
  · exact ⟨by decide, by decide⟩
theorem headF_bd (s i : Int) : 0 ≤ (headF s i).1 ∧ (headF s i).1 < 262144 := by
  unfold headF
  split
  · rename_i h
    have := (headOk_iff s i).1 h
    exact ⟨by show 0 ≤ (s + 1) * 64 + (i + 1); omega, by show (s + 1) * 64 + (i + 1) < 262144; omega⟩
  · exact ⟨by decide, by decide⟩

set_option maxHeartbeats 1000000 in
theorem countPacks_any (i o : Int) (f l : Bool) (x : Int) (h0 : 0 ≤ x) (h1 : x < 18446744073709551616) (w : World) : Calls Try.prog 3 #[.agg #[.int .i64 i, .int .i64 o, .bool f, .bool l], .int .u64 x] w fun e w' =>
    e = .returned (.bool true) ∧ Below w.heap.size w w' := by
  have hbd := packF_bd i o f l
  rcases hp : packF i o f l with ⟨v, e⟩
  rw [hp] at hbd
  obtain ⟨b0, b1⟩ : 0 ≤ v ∧ v < 262144 := hbd
  have HP := Lib.hid hp
  clear hp
  rcases hc : cntF x with ⟨⟨ci, co, cf, cl⟩, ca⟩
  have HC := Lib.hid hc
  clear hc
  rcases hd : cntF (x % 262144) with ⟨⟨di, d_o, df, dl⟩, da⟩
  have HD := Lib.hid hd
  clear hd
  rcases hg : cntF v with ⟨⟨gi, go, gf, gl⟩, ga⟩
  have HG := Lib.hid hg
  clear hg
  go_enter Try.func3, Try.ntmps3
  go_wp2_with (first | (go_at_call 8; with_reducible refine (pack_at _ _ _ _ _ _ HP.out _).mono ?_; rintro e w1 ⟨rfl, hb1⟩; have p1 := (Blk.new w 23 _).below hb1; have n1 := p1.lt; have c1 := p1.cell; have z1 := hb1.size; rw [World.size_alloc] at z1) | (go_at_call 9; with_reducible refine (refPack_at _ _ _ _ _ _ HP.out _).mono ?_; rintro e w2 ⟨rfl, hb2⟩))
  have z2 := hb2.size
  have q2 : Below w.heap.size w w2 := by (repeat' (first | (with_reducible exact Below.refl _ _) | (with_reducible assumption) | (with_reducible refine Below.alloc ?_ ?_ _) | (with_reducible refine below_drewN ?_ _) | (with_reducible refine Below.drew ?_) | (with_reducible refine Below.setCell ?_ ?_ _) | (with_reducible refine below_two ?_ (by with_reducible assumption)) | go_size))
  clear hb1 hb2 p1 n1 c1
  go_loopw [9] (fun j wr => ∃ k : Nat, k ≤ 3 ∧ j = .int .i64 k ∧ Below w.heap.size w wr) (fun j _ => 3 - (intOf j).toNat)
  case atStart => exact ⟨0, by omega, rfl, q2⟩
  case round =>
    obtain ⟨k, hk, rfl, hw⟩ := hrel
    have hz := hw.size
    by_cases hlt : k < 3
    · obtain rfl | rfl | rfl : k = 0 ∨ k = 1 ∨ k = 2 := by omega
      all_goals
        go_wp2_with (first | (go_at_call 10; with_reducible refine (counts_at x _ _ _ _ _ h0 h1 HC.out _).mono ?_; rintro e w3 ⟨rfl, hb3⟩) | (go_at_call 10; with_reducible refine (counts_at (x % 262144) _ _ _ _ _ (by omega) (by omega) HD.out _).mono ?_; rintro e w3 ⟨rfl, hb3⟩) | (go_at_call 10; with_reducible refine (counts_at v _ _ _ _ _ b0 (by omega) HG.out _).mono ?_; rintro e w3 ⟨rfl, hb3⟩) | (go_at_call 11; with_reducible refine (refCounts_at x _ _ _ _ _ h0 h1 HC.out _).mono ?_; rintro e w4 ⟨rfl, hb4⟩; have p3 := (Blk.new w3 23 _).below hb4; have n3 := p3.lt; have c3 := p3.cell) | (go_at_call 11; with_reducible refine (refCounts_at (x % 262144) _ _ _ _ _ (by omega) (by omega) HD.out _).mono ?_; rintro e w4 ⟨rfl, hb4⟩; have p3 := (Blk.new w3 23 _).below hb4; have n3 := p3.lt; have c3 := p3.cell) | (go_at_call 11; with_reducible refine (refCounts_at v _ _ _ _ _ b0 (by omega) HG.out _).mono ?_; rintro e w4 ⟨rfl, hb4⟩; have p3 := (Blk.new w3 23 _).below hb4; have n3 := p3.lt; have c3 := p3.cell))
        have z3 := hb3.size
        have z4 := hb4.size
        rw [World.size_alloc] at z3 z4
        go_roundw
        case rel => first | exact ⟨1, by omega, rfl, by (repeat' (first | (with_reducible exact Below.refl _ _) | (with_reducible assumption) | (with_reducible refine Below.alloc ?_ ?_ _) | (with_reducible refine below_drewN ?_ _) | (with_reducible refine Below.drew ?_) | (with_reducible refine Below.setCell ?_ ?_ _) | (with_reducible refine below_two ?_ (by with_reducible assumption)) | go_size))⟩ | exact ⟨2, by omega, rfl, by (repeat' (first | (with_reducible exact Below.refl _ _) | (with_reducible assumption) | (with_reducible refine Below.alloc ?_ ?_ _) | (with_reducible refine below_drewN ?_ _) | (with_reducible refine Below.drew ?_) | (with_reducible refine Below.setCell ?_ ?_ _) | (with_reducible refine below_two ?_ (by with_reducible assumption)) | go_size))⟩ | exact ⟨3, by omega, rfl, by (repeat' (first | (with_reducible exact Below.refl _ _) | (with_reducible assumption) | (with_reducible refine Below.alloc ?_ ?_ _) | (with_reducible refine below_drewN ?_ _) | (with_reducible refine Below.drew ?_) | (with_reducible refine Below.setCell ?_ ?_ _) | (with_reducible refine below_two ?_ (by with_reducible assumption)) | go_size))⟩
        case measure => simp [intOf]
    · go_wp2_with (first | (go_at_call 12; with_reducible refine (works_any _).mono ?_; rintro e w3 ⟨rfl, hb3⟩))
      go_ret
      exact ⟨rfl, by (repeat' (first | (with_reducible exact Below.refl _ _) | (with_reducible assumption) | (with_reducible refine Below.alloc ?_ ?_ _) | (with_reducible refine below_drewN ?_ _) | (with_reducible refine Below.drew ?_) | (with_reducible refine Below.setCell ?_ ?_ _) | (with_reducible refine below_two ?_ (by with_reducible assumption)) | go_size))⟩

set_option maxRecDepth 100000 in
set_option maxHeartbeats 1000000 in
theorem countHeads_any (s n : Int) (x : Int) (h0 : 0 ≤ x) (h1 : x < 18446744073709551616) (w : World) : Calls Try.prog 4 #[.int .i64 s, .int .i64 n, .int .u64 x] w fun e w' =>
    e = .returned (.bool true) ∧ Below w.heap.size w w' := by
  have hbd := headF_bd s n
  rcases hp : headF s n with ⟨v, e⟩
  rw [hp] at hbd
  obtain ⟨b0, b1⟩ : 0 ≤ v ∧ v < 262144 := hbd
  have HP := Lib.hid hp
  clear hp
  rcases hq : partF s n with ⟨u, g⟩
  have HQ := Lib.hid hq
  clear hq
  rcases hc : headOfF x with ⟨ca, cb, cc⟩
  have HC := Lib.hid hc
  clear hc
  rcases hd : headOfF (x % 4200) with ⟨da, db, dc⟩
  have HD := Lib.hid hd
  clear hd
  rcases hg : headOfF v with ⟨ga, gb, gc⟩
  have HG := Lib.hid hg
  clear hg
  rcases hc : partOfF x with ⟨pa, pb, pc⟩
  have PC := Lib.hid hc
  clear hc
  rcases hd : partOfF (x % 4200) with ⟨qa, qb, qc⟩
  have PD := Lib.hid hd
  clear hd
  rcases hg : partOfF v with ⟨ra, rb, rc⟩
  have PG := Lib.hid hg
  clear hg
  go_enter Try.func4, Try.ntmps4
  go_wp2_with (first | (go_at_call 13; with_reducible refine (head_at _ _ _ _ HP.out _).mono ?_; rintro e w0 ⟨rfl, hw0⟩; replace hw0 := hw0.symm; subst hw0) | (go_at_call 14; with_reducible refine (refHead_at _ _ _ _ HP.out _).mono ?_; rintro e w0 ⟨rfl, hw0⟩; replace hw0 := hw0.symm; subst hw0) | (go_at_call 15; with_reducible refine (part_at _ _ _ _ HQ.out _).mono ?_; rintro e w0 ⟨rfl, hw0⟩; replace hw0 := hw0.symm; subst hw0) | (go_at_call 16; with_reducible refine (refPart_at _ _ _ _ HQ.out _).mono ?_; rintro e w0 ⟨rfl, hw0⟩; replace hw0 := hw0.symm; subst hw0))
  go_loopw [15] (fun j wr => ∃ k : Nat, k ≤ 3 ∧ j = .int .i64 k ∧ Below w.heap.size w wr) (fun j _ => 3 - (intOf j).toNat)
  case atStart => exact ⟨0, by omega, rfl, Below.refl _ _⟩
  case round =>
    obtain ⟨k, hk, rfl, hw⟩ := hrel
    have hz := hw.size
    by_cases hlt : k < 3
    · obtain rfl | rfl | rfl : k = 0 ∨ k = 1 ∨ k = 2 := by omega
      all_goals
        go_wp2_with (first | (go_at_call 17; with_reducible refine (headOf_at x _ _ _ h0 h1 HC.out _).mono ?_; rintro e w0 ⟨rfl, hw0⟩; replace hw0 := hw0.symm; subst hw0) | (go_at_call 17; with_reducible refine (headOf_at (x % 4200) _ _ _ (by omega) (by omega) HD.out _).mono ?_; rintro e w0 ⟨rfl, hw0⟩; replace hw0 := hw0.symm; subst hw0) | (go_at_call 17; with_reducible refine (headOf_at v _ _ _ b0 (by omega) HG.out _).mono ?_; rintro e w0 ⟨rfl, hw0⟩; replace hw0 := hw0.symm; subst hw0) | (go_at_call 18; with_reducible refine (refHeadOf_at x _ _ _ HC.out _).mono ?_; rintro e w0 ⟨rfl, hw0⟩; replace hw0 := hw0.symm; subst hw0) | (go_at_call 18; with_reducible refine (refHeadOf_at (x % 4200) _ _ _ HD.out _).mono ?_; rintro e w0 ⟨rfl, hw0⟩; replace hw0 := hw0.symm; subst hw0) | (go_at_call 18; with_reducible refine (refHeadOf_at v _ _ _ HG.out _).mono ?_; rintro e w0 ⟨rfl, hw0⟩; replace hw0 := hw0.symm; subst hw0) | (go_at_call 19; with_reducible refine (partOf_at x _ _ _ h0 h1 PC.out _).mono ?_; rintro e w0 ⟨rfl, hw0⟩; replace hw0 := hw0.symm; subst hw0) | (go_at_call 19; with_reducible refine (partOf_at (x % 4200) _ _ _ (by omega) (by omega) PD.out _).mono ?_; rintro e w0 ⟨rfl, hw0⟩; replace hw0 := hw0.symm; subst hw0) | (go_at_call 19; with_reducible refine (partOf_at v _ _ _ b0 (by omega) PG.out _).mono ?_; rintro e w0 ⟨rfl, hw0⟩; replace hw0 := hw0.symm; subst hw0) | (go_at_call 20; with_reducible refine (refPartOf_at x _ _ _ h0 h1 PC.out _).mono ?_; rintro e w0 ⟨rfl, hw0⟩; replace hw0 := hw0.symm; subst hw0) | (go_at_call 20; with_reducible refine (refPartOf_at (x % 4200) _ _ _ (by omega) (by omega) PD.out _).mono ?_; rintro e w0 ⟨rfl, hw0⟩; replace hw0 := hw0.symm; subst hw0) | (go_at_call 20; with_reducible refine (refPartOf_at v _ _ _ b0 (by omega) PG.out _).mono ?_; rintro e w0 ⟨rfl, hw0⟩; replace hw0 := hw0.symm; subst hw0))
        go_roundw
        case rel => first | exact ⟨1, by omega, rfl, by (repeat' (first | (with_reducible exact Below.refl _ _) | (with_reducible assumption) | (with_reducible refine Below.alloc ?_ ?_ _) | (with_reducible refine below_drewN ?_ _) | (with_reducible refine Below.drew ?_) | (with_reducible refine Below.setCell ?_ ?_ _) | (with_reducible refine below_two ?_ (by with_reducible assumption)) | go_size))⟩ | exact ⟨2, by omega, rfl, by (repeat' (first | (with_reducible exact Below.refl _ _) | (with_reducible assumption) | (with_reducible refine Below.alloc ?_ ?_ _) | (with_reducible refine below_drewN ?_ _) | (with_reducible refine Below.drew ?_) | (with_reducible refine Below.setCell ?_ ?_ _) | (with_reducible refine below_two ?_ (by with_reducible assumption)) | go_size))⟩ | exact ⟨3, by omega, rfl, by (repeat' (first | (with_reducible exact Below.refl _ _) | (with_reducible assumption) | (with_reducible refine Below.alloc ?_ ?_ _) | (with_reducible refine below_drewN ?_ _) | (with_reducible refine Below.drew ?_) | (with_reducible refine Below.setCell ?_ ?_ _) | (with_reducible refine below_two ?_ (by with_reducible assumption)) | go_size))⟩
        case measure => simp [intOf]
    · go_wp2_with (first | (go_at_call 12; with_reducible refine (works_any _).mono ?_; rintro e w3 ⟨rfl, hb3⟩))
      go_ret
      exact ⟨rfl, by (repeat' (first | (with_reducible exact Below.refl _ _) | (with_reducible assumption) | (with_reducible refine Below.alloc ?_ ?_ _) | (with_reducible refine below_drewN ?_ _) | (with_reducible refine Below.drew ?_) | (with_reducible refine Below.setCell ?_ ?_ _) | (with_reducible refine below_two ?_ (by with_reducible assumption)) | go_size))⟩

end Go.Proofs.Ytmljiklddjladaa
