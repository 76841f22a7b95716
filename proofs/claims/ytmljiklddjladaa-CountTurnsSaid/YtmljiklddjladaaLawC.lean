/-
  The walks of the laws CountBack and CountTurns.
-/
import Derived.Test.YtmljiklddjladaaLawB
namespace Go.Proofs.Ytmljiklddjladaa
open Go.RowKit

theorem packF_no {i o : Int} {f l : Bool} (h : mayC i o f l = false) : packF i o f l = (0, 2) := by unfold packF; rw [h]; rfl
theorem packF_yes {i o : Int} {f l : Bool} (h : mayC i o f l = true) : packF i o f l = (packW i o f l, 0) := by unfold packF; rw [h]; rfl

theorem bring_n (i n : Int) (r : Int) (h : i % n = r) (hn : 1 ≤ n) (hn' : n ≤ 4611686018427387904) (w : World) : Calls Try.prog 21 #[.int .i64 i, .int .i64 n] w fun e w' =>
    e = .returned (.int .i64 r) ∧ w' = w := h ▸ bring_any i n hn hn' w

theorem turnBits (n m : Fin 17) (f : Bool) : bits .xor .u64 (packW (n.val : Int) (m.val : Int) f true) (packW (n.val : Int) (m.val : Int) (!f) true) = 65536 := by
  revert n m f
  decide +kernel
theorem turn_xor {i n : Int} {f g : Bool} (hg : g = !f) (h0 : 0 ≤ i) (h1 : i ≤ 16) (h2 : 0 ≤ n) (h3 : n ≤ 16) : bits .xor .u64 (packW i n f true) (packW i n g true) = 65536 := by
  obtain ⟨a, rfl⟩ := Int.eq_ofNat_of_zero_le h0
  obtain ⟨b, rfl⟩ := Int.eq_ofNat_of_zero_le h2
  subst hg
  exact turnBits ⟨a, by omega⟩ ⟨b, by omega⟩ f

set_option maxRecDepth 100000 in
set_option maxHeartbeats 1000000 in
theorem turns_at (a b i n : Int) (f g : Bool) (hg : g = !f) (hn : a % 16 = n - 1) (hi : b % n = i) (h1 : 1 ≤ n) (h2 : n ≤ 16) (h3 : 0 ≤ i) (h4 : i < n) (w : World) :
    Calls Try.prog 6 #[.int .i64 a, .int .i64 b, .bool f] w fun e w' => e = .returned (.bool true) ∧ Below w.heap.size w w' := by
  have m1 : mayC i n f true = true := (mayC_iff _ _ _ _).2 (Or.inl ⟨rfl, by omega, by omega, by omega, by omega⟩)
  have m2 : mayC (i + 1) n f true = true := (mayC_iff _ _ _ _).2 (Or.inl ⟨rfl, by omega, by omega, by omega, by omega⟩)
  have m3 : mayC i n g true = true := (mayC_iff _ _ _ _).2 (Or.inl ⟨rfl, by omega, by omega, by omega, by omega⟩)
  obtain ⟨v, hv⟩ : ∃ v, packW i n f true = v := ⟨_, rfl⟩
  obtain ⟨x, hx⟩ : ∃ x, packW (i + 1) n f true = x := ⟨_, rfl⟩
  obtain ⟨y, hy⟩ : ∃ y, packW i n g true = y := ⟨_, rfl⟩
  have k1 := packW_bd m1
  have k2 := packW_bd m2
  have hxv : x = v + 1 := by rw [← hx, ← hv]; unfold packW; omega
  have hxor := turn_xor (i := i) (n := n) hg h3 (by omega) (by omega) h2
  have hc := cnt_pack m2
  have p1 := packF_yes m1
  have p2 := packF_yes m2
  have p3 := packF_yes m3
  rw [hv] at k1 p1 hxor
  rw [hx] at k2 p2 hc
  rw [hy] at hxor p3
  have HC := Lib.hid hc
  have P1 := Lib.hid p1
  have P2 := Lib.hid p2
  have P3 := Lib.hid p3
  have HN := Lib.hid hn
  have HI := Lib.hid hi
  subst hxv
  clear hc p1 p2 p3 m1 m2 m3 hv hx hy hn hi
  have hsum : IntKind.i64.wrap (1 + (n - 1)) = n := by
    rw [show 1 + (n - 1) = n by omega]
    exact IntWalk.i64_in _ (by omega)
  have hbb : bits .and .u64 65536 65535 = 0 := by decide +kernel
  cases f
  all_goals
    first | (obtain rfl : g = true := hg) | (obtain rfl : g = false := hg)
    go_enter Try.func6, Try.ntmps6
    go_wp2_with (first | (go_at_call 21; with_reducible refine (bring_n a 16 (n - 1) HN.out (by omega) (by omega) _).mono ?_; rintro e w0 ⟨rfl, hw0⟩; replace hw0 := hw0.symm; subst hw0) | (go_at_call 21; with_reducible refine (bring_n b n i HI.out (by omega) (by omega) _).mono ?_; rintro e w0 ⟨rfl, hw0⟩; replace hw0 := hw0.symm; subst hw0) | (go_at_call 8; with_reducible refine (pack_at _ _ _ _ _ _ P1.out _).mono ?_; rintro e w1 ⟨rfl, hb1⟩; have p1 := (Blk.new w 23 _).below hb1; have n1 := p1.lt; have c1 := p1.cell; have z1 := hb1.size; rw [World.size_alloc] at z1) | (go_at_call 8; with_reducible refine (pack_at _ _ _ _ _ _ P2.out _).mono ?_; rintro e w2 ⟨rfl, hb2⟩; have p1 := (p1.alloc _).below hb2; have n1 := p1.lt; have c1 := p1.cell; have z2 := hb2.size; rw [World.size_alloc] at z2) | (go_at_call 8; with_reducible refine (pack_at _ _ _ _ _ _ P3.out _).mono ?_; rintro e w3 ⟨rfl, hb3⟩; have z3 := hb3.size; rw [World.size_alloc] at z3) | (go_at_call 10; with_reducible refine (counts_at (v + 1) _ _ _ _ _ (by omega) (by omega) HC.out _).mono ?_; rintro e w4 ⟨rfl, hb4⟩; have z4 := hb4.size) | (go_at_call 8; with_reducible refine (pack_at _ _ _ _ _ _ P1.out _).mono ?_; rintro e w5 ⟨rfl, hb5⟩; have z5 := hb5.size; rw [World.size_alloc] at z5) | (go_at_call 12; with_reducible refine (works_any _).mono ?_; rintro e w6 ⟨rfl, hb6⟩))
    go_ret
    exact ⟨rfl, by (repeat' (first | (with_reducible exact Below.refl _ _) | (with_reducible assumption) | (with_reducible refine Below.alloc ?_ ?_ _) | (with_reducible refine below_drewN ?_ _) | (with_reducible refine Below.drew ?_) | (with_reducible refine Below.setCell ?_ ?_ _) | (with_reducible refine below_two ?_ (by with_reducible assumption)) | go_size))⟩

theorem countTurns_any (a b : Int) (f : Bool) (w : World) : Calls Try.prog 6 #[.int .i64 a, .int .i64 b, .bool f] w fun e w' => e = .returned (.bool true) ∧ Below w.heap.size w w' := by
  obtain ⟨n, hn⟩ : ∃ n, a % 16 = n - 1 := ⟨a % 16 + 1, by omega⟩
  have h1 : 1 ≤ n := by omega
  exact turns_at a b (b % n) n f (!f) rfl hn rfl h1 (by omega) (Int.emod_nonneg _ (by omega)) (Int.emod_lt_of_pos _ (by omega)) w

set_option maxRecDepth 100000 in
set_option maxHeartbeats 1000000 in
/-- Behind the two Packs: what is told of the first counts' word and of a small word. -/
theorem back_at (i1 o1 i2 o2 : Int) (f1 l1 f2 l2 : Bool) (x e y g ci co : Int) (cf cl is : Bool) (u s i p n v g1 u1 h1 : Int) (hb pb : Bool)
    (H1 : Hid (packF i1 o1 f1 l1 = (x, e))) (H2 : Hid (packF i2 o2 f2 l2 = (y, g))) (HC : Hid (cntF x = (⟨ci, co, cf, cl⟩, is))) (hx : 0 ≤ x ∧ x < 262144)
    (hu : 0 ≤ u ∧ u < 18446744073709551616) (HH : Hid (headOfF (u % 4200) = (s, i, hb))) (HP : Hid (partOfF (u % 4200) = (p, n, pb))) (HS : Hid (headF s i = (v, g1))) (HT : Hid (partF p n = (u1, h1)))
    (kh : hb = true → g1 = 0) (kv : hb = true → v = u % 4200) (ph : pb = true → h1 = 0) (pv : pb = true → u1 = u % 4200)
    (hcase : e = 2 ∨ (e = 0 ∧ is = true ∧ ci = i1 ∧ co = o1 ∧ cf = f1 ∧ cl = l1 ∧ (g = 2 ∨ (g = 0 ∧ ((x == y) = true ∧ i1 = i2 ∧ o1 = o2 ∧ f1 = f2 ∧ l1 = l2 ∨ (x == y) = false ∧ ((i1 == i2) = false ∨ i1 = i2 ∧ (o1 == o2) = false ∨ i1 = i2 ∧ o1 = o2 ∧ f1 = !f2 ∨ i1 = i2 ∧ o1 = o2 ∧ f1 = f2 ∧ l1 = !l2))))))
    (w : World) : Calls Try.prog 5 #[.agg #[.int .i64 i1, .int .i64 o1, .bool f1, .bool l1], .agg #[.int .i64 i2, .int .i64 o2, .bool f2, .bool l2], .int .u64 u] w fun e w' =>
    e = .returned (.bool true) ∧ Below w.heap.size w w' := by
  rcases hcase with rfl | ⟨rfl, rfl, rfl, rfl, rfl, rfl, rfl | ⟨rfl, ⟨hxy, rfl, rfl, rfl, rfl⟩ | ⟨hxy, hi | ⟨rfl, ho⟩ | ⟨rfl, rfl, rfl⟩ | ⟨rfl, rfl, rfl, rfl⟩⟩⟩⟩
  case' inr.inr.inr.inr.inr.inl => cases f2 <;> simp only [Bool.not_true, Bool.not_false] at *
  case' inr.inr.inr.inr.inr.inr => cases l2 <;> simp only [Bool.not_true, Bool.not_false] at *
  all_goals
    go_enter Try.func5, Try.ntmps5
    go_wp2_with (first | (go_at_call 8; with_reducible refine (pack_at _ _ _ _ _ _ H1.out _).mono ?_; rintro e w1 ⟨rfl, hb1⟩; have p1 := ((Blk.new w 23 _).alloc _).below hb1; have p2 := (Blk.new2 w _ 23 _).below hb1; have n2 := p2.lt; have c2 := p2.cell; have z1 := hb1.size; rw [World.size_alloc, World.size_alloc] at z1) | (go_at_call 8; with_reducible refine (pack_at _ _ _ _ _ _ H2.out _).mono ?_; rintro e w2 ⟨rfl, hb2⟩; have p1 := p1.below hb2; have p2 := p2.below hb2; have n1 := p1.lt; have n2 := p2.lt; have c1 := p1.cell; have c2 := p2.cell; have z2 := hb2.size) | (go_at_call 10; with_reducible refine (counts_at x _ _ _ _ _ hx.1 (by omega) HC.out _).mono ?_; rintro e w3 ⟨rfl, hb3⟩; have p1 := p1.below hb3; have n1 := p1.lt; have c1 := p1.cell; have z3 := hb3.size) | (go_at_call 17; with_reducible refine (headOf_at (u % 4200) _ _ _ (by omega) (by omega) HH.out _).mono ?_; rintro e w0 ⟨rfl, hw0⟩; replace hw0 := hw0.symm; subst hw0) | (go_at_call 19; with_reducible refine (partOf_at (u % 4200) _ _ _ (by omega) (by omega) HP.out _).mono ?_; rintro e w0 ⟨rfl, hw0⟩; replace hw0 := hw0.symm; subst hw0) | (go_at_call 13; with_reducible refine (head_at _ _ _ _ HS.out _).mono ?_; rintro e w0 ⟨rfl, hw0⟩; replace hw0 := hw0.symm; subst hw0) | (go_at_call 15; with_reducible refine (part_at _ _ _ _ HT.out _).mono ?_; rintro e w0 ⟨rfl, hw0⟩; replace hw0 := hw0.symm; subst hw0) | (go_at_call 12; with_reducible refine (works_any _).mono ?_; rintro e w6 ⟨rfl, hb6⟩))
    all_goals
      go_ret
      exact ⟨rfl, by (repeat' (first | (with_reducible exact Below.refl _ _) | (with_reducible assumption) | (with_reducible refine Below.alloc ?_ ?_ _) | (with_reducible refine below_drewN ?_ _) | (with_reducible refine Below.drew ?_) | (with_reducible refine Below.setCell ?_ ?_ _) | (with_reducible refine below_two ?_ (by with_reducible assumption)) | go_size))⟩

end Go.Proofs.Ytmljiklddjladaa
