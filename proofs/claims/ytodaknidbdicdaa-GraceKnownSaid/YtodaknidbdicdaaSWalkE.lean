/-
  The walks of the reference's Add; of Next, of both; of Same.
-/
import Derived.Test.YtodaknidbdicdaaSWalkD
import Derived.Deep.RegionHeld3
import Derived.WalkKit
import Derived.Deep.DeepMust
import Derived.WalkSpells
import Derived.WalkLawsBesides
import Derived.Handy
import Derived.Lib.Hide
import Derived.Deep.QuietTactic
import Derived.BigQuiet
namespace Go.Proofs.Ytodaknidbdicdaa
open Go.RowKit

theorem grown_cell {w w' : World} {v : Value} {base : Nat} {e : TypeId} {size n : Nat} {xs : List Value} (hg : w.grownBy w' v.ownBlock) (ho : w.ownsRow base e size v n xs) {p : Addr} {u : Value} (hp : p.block < base) (hc : w.cell? p = some u) : w'.cell? p = some u := by
  refine (World.cell?_of_block (w := w) (hg.block p.block (World.block_lt_of_cell? w p hc) ?_)).trans hc
  rcases ho.2 with ⟨rfl, _⟩ | ⟨g, cap, cur, rfl, hb, _⟩
  · simp [Value.ownBlock]
  · simp only [Value.ownBlock, ne_eq, Option.some.injEq]
    omega
theorem refAdd_err (l : List Wt) (i a : Int) (A : Option Addr) (n c : Nat) (w : World) (hn : Hid (l.length = n)) (hn' : n ≤ 9223372036854775807) (hA : WRow w A l) (er : Int) (he : Hid (errC l = er)) (h0 : er ≠ 0) :
    Calls Try.prog 48 #[.slice A n c, .agg #[.int .i64 i, .int .i64 a]] w (Adds w [] er) := by
  have HA := Lib.hid (hA.alloc (.cells #[.int .i64 i, .int .i64 a] 78))
  have hne : (er != 0) = true := bne_iff_ne.2 h0
  clear hA h0
  go_enter Try.func48, Try.ntmps48
  go_wp2_with (first | (go_at_call 52; with_reducible refine (refCheck_any l A n c _ hn hn' HA.out er he.out).mono ?_; rintro e w1 ⟨rfl, hb1⟩))
  go_ret2
  exact ⟨_, rfl, World.ownsRow_nil _ _ _ _, by (repeat' (first | (with_reducible exact Below.refl _ _) | (with_reducible assumption) | (with_reducible refine Below.alloc ?_ ?_ _) | (with_reducible refine below_drewN ?_ _) | (with_reducible refine Below.drew ?_) | (with_reducible refine Below.setCell ?_ ?_ _) | (with_reducible refine below_two ?_ (by with_reducible assumption)) | go_size))⟩
theorem refAdd_full (l : List Wt) (i a : Int) (A : Option Addr) (c : Nat) (w : World) (hn : Hid (l.length = 256)) (hA : WRow w A l) (he : Hid (errC l = 0)) :
    Calls Try.prog 48 #[.slice A 256 c, .agg #[.int .i64 i, .int .i64 a]] w (Adds w [] 5) := by
  have HA := Lib.hid (hA.alloc (.cells #[.int .i64 i, .int .i64 a] 78))
  clear hA
  go_enter Try.func48, Try.ntmps48
  go_wp2_with (first | (go_at_call 52; with_reducible refine (refCheck_any l A 256 c _ hn (by omega) HA.out 0 he.out).mono ?_; rintro e w1 ⟨rfl, hb1⟩))
  go_ret2
  exact ⟨_, rfl, World.ownsRow_nil _ _ _ _, by (repeat' (first | (with_reducible exact Below.refl _ _) | (with_reducible assumption) | (with_reducible refine Below.alloc ?_ ?_ _) | (with_reducible refine below_drewN ?_ _) | (with_reducible refine Below.drew ?_) | (with_reducible refine Below.setCell ?_ ?_ _) | (with_reducible refine below_two ?_ (by with_reducible assumption)) | go_size))⟩
set_option maxHeartbeats 2000000 in
theorem refAdd_last (l : List Wt) (i a : Int) (A : Option Addr) (n c : Nat) (w : World) (hn : Hid (l.length = n)) (hn' : n < 256) (hA : WRow w A l) (he : Hid (errC l = 0)) (er : Int) (he2 : Hid (errC (l ++ [⟨i, a⟩]) = er)) (r : List Wt) (hr : Hid ((er = 0 ∧ r = l ++ [⟨i, a⟩]) ∨ (er = 2 ∧ r = []))) :
    Calls Try.prog 48 #[.slice A n c, .agg #[.int .i64 i, .int .i64 a]] w (Adds w r er) := by
  obtain ⟨i0, hi, hz0, hz1, hz2⟩ := info_parts Try.info24
  have I0 := Lib.hid hi
  have I1 := Lib.hid hz0
  have I2 := Lib.hid hz1
  have I3 := Lib.hid hz2
  have HA := Lib.hid (hA.alloc (.cells #[.int .i64 i, .int .i64 a] 78))
  have hl : Hid ((l ++ [(⟨i, a⟩ : Wt)]).length = n + 1) := Lib.hid (by rw [List.length_append, hn.out]; rfl)
  have h256 : ((n : Int) == 256) = false := by rw [beq_eq_false_iff_ne]; omega
  clear hA hi hz0 hz1 hz2
  go_enter Try.func48, Try.ntmps48
  go_wp2_with (first | (go_at_call 52; with_reducible refine (refCheck_any l A n c _ hn (by omega) HA.out 0 he.out).mono ?_; rintro e w1 ⟨rfl, hb1⟩))
  have hX := (Blk.new w 78 #[.int .i64 i, .int .i64 a]).below hb1
  have x0 : w1.cell? ⟨w.heap.size, 0, none⟩ = some (.int .i64 i) := hX.cell 0
  have x1 : w1.cell? ⟨w.heap.size, 1, none⟩ = some (.int .i64 a) := hX.cell 1
  have hA1 : WRow w1 A l := HA.out.below hb1
  have z1 := hb1.size
  rw [World.size_alloc] at z1
  go_region_held3 (fun w' => w'.cell? ⟨w.heap.size, 0, none⟩ = some (.int .i64 i) ∧ w'.cell? ⟨w.heap.size, 1, none⟩ = some (.int .i64 a)) (first | exact ⟨by assumption, by assumption⟩ | exact ⟨cell_alloc (by assumption), cell_alloc (by assumption)⟩) (first | (go_at_call 53; (with_reducible refine (copy_any l A n c w1.drew hn (by omega) (Row.drew hA1)).mono ?_); rintro e w2 ⟨v2, rfl, ho2, hb2⟩; have z2 := hb2.size; simp only [World.size_drew] at z2; have x0' := cell_below hb2 x0; have x1' := cell_below hb2 x1) | (go_at_call 53; (with_reducible refine (copy_any l A n c (w1.alloc (.cells #[.int .i64 i, .int .i64 a] 78)).drew hn (by omega) (Row.drew (hA1.alloc _))).mono ?_); rintro e w2 ⟨v2, rfl, ho2, hb2⟩; have z2 := hb2.size; simp only [World.size_drew, World.size_alloc] at z2; have x0' := cell_below hb2 (cell_alloc (o := (.cells #[.int .i64 i, .int .i64 a] 78)) x0); have x1' := cell_below hb2 (cell_alloc (o := (.cells #[.int .i64 i, .int .i64 a] 78)) x1)) | (have hO := ho2.alloc (.cells #[.int .i64 i, .int .i64 a] 78); refine step_append_any _ rfl _ _ 66 rfl _ 78 i0 (.agg #[.int .i64 0, .int .i64 0]) 2 16 Try.underlying66 I0.out I1.out I2.out I3.out rfl (by decide) _ n (rowV l) rfl hO _ (some ⟨w2.heap.size, 0, none⟩) 1 1 (rowV [⟨i, a⟩]) rfl (WRow.reads (WRow.of_blk (x := ⟨i, a⟩) (Blk.new w2 78 _)) rfl) rowV_one (by unfold maxLen; omega) (by omega) (by go_size) ?_; intro v3 w3 ho3 hg3 hq3; clear hq3; have x0'' := grown_cell hg3 hO (p := ⟨w.heap.size, 0, none⟩) (by go_size) (by first | exact x0' | exact cell_alloc x0'); have x1'' := grown_cell hg3 hO (p := ⟨w.heap.size, 1, none⟩) (by go_size) (by first | exact x1' | exact cell_alloc x1'); have hb3 : Below w.heap.size w w3 := below_grown' (by (repeat' (first | (with_reducible exact Below.refl _ _) | (with_reducible assumption) | (with_reducible refine Below.alloc ?_ ?_ _) | (with_reducible refine below_drewN ?_ _) | (with_reducible refine Below.drew ?_) | (with_reducible refine Below.setCell ?_ ?_ _) | (with_reducible refine below_two ?_ (by with_reducible assumption)) | go_size))) hg3 hO (by go_size) (by go_size); rw [← rowV_append] at ho3; replace ho3 := own_le ho3 (show w.heap.size ≤ _ by go_size); clear hO hg3) | (have hO := ho2; refine step_append_any _ rfl _ _ 66 rfl _ 78 i0 (.agg #[.int .i64 0, .int .i64 0]) 2 16 Try.underlying66 I0.out I1.out I2.out I3.out rfl (by decide) _ n (rowV l) rfl hO _ (some ⟨w1.heap.size, 0, none⟩) 1 1 (rowV [⟨i, a⟩]) rfl (WRow.reads (Row.below (Row.drew (WRow.of_blk (x := ⟨i, a⟩) (Blk.new w1 78 _))) hb2) rfl) rowV_one (by unfold maxLen; omega) (by omega) (by go_size) ?_; intro v3 w3 ho3 hg3 hq3; clear hq3; have x0'' := grown_cell hg3 hO (p := ⟨w.heap.size, 0, none⟩) (by go_size) (by first | exact x0' | exact cell_alloc x0'); have x1'' := grown_cell hg3 hO (p := ⟨w.heap.size, 1, none⟩) (by go_size) (by first | exact x1' | exact cell_alloc x1'); have hb3 : Below w.heap.size w w3 := below_grown' (by (repeat' (first | (with_reducible exact Below.refl _ _) | (with_reducible assumption) | (with_reducible refine Below.alloc ?_ ?_ _) | (with_reducible refine below_drewN ?_ _) | (with_reducible refine Below.drew ?_) | (with_reducible refine Below.setCell ?_ ?_ _) | (with_reducible refine below_two ?_ (by with_reducible assumption)) | go_size))) hg3 hO (by go_size) (by go_size); rw [← rowV_append] at ho3; replace ho3 := own_le ho3 (show w.heap.size ≤ _ by go_size); clear hO hg3))
  all_goals obtain ⟨A3, c3, rfl, hc3, hr3⟩ := WRow.slice ho3
  all_goals clear x0 x1 x0' x1' x0'' x1'' hX
  all_goals have z3 := hb3.size
  all_goals
    by_cases h0 : er = 0
    · have hne : (er != 0) = false := by rw [bne_eq_false_iff_eq]; exact h0
      have H0 := Lib.hid h0
      have hr' : r = l ++ [⟨i, a⟩] := by
        rcases hr.out with ⟨_, h⟩ | ⟨h, _⟩
        · exact h
        · omega
      clear h0
      subst hr'
      go_wp2_with (first | (go_at_call 52; with_reducible refine (refCheck_any (l ++ [⟨i, a⟩]) A3 (n + 1) c3 _ hl (by omega) hr3 er he2.out).mono ?_; rintro e w4 ⟨rfl, hb4⟩))
      go_ret2
      exact ⟨_, by rw [H0.out]; rfl, by rw [hl.out]; exact own_below ho3 hb4, by (repeat' (first | (with_reducible exact Below.refl _ _) | (with_reducible assumption) | (with_reducible refine Below.alloc ?_ ?_ _) | (with_reducible refine below_drewN ?_ _) | (with_reducible refine Below.drew ?_) | (with_reducible refine Below.setCell ?_ ?_ _) | (with_reducible refine below_two ?_ (by with_reducible assumption)) | go_size))⟩
    · have hne : (er != 0) = true := bne_iff_ne.2 h0
      have HR : Hid (er = 2 ∧ r = []) := Lib.hid (by
        rcases hr.out with ⟨h, _⟩ | h
        · exact absurd h h0
        · exact h)
      clear h0
      go_wp2_with (first | (go_at_call 52; with_reducible refine (refCheck_any (l ++ [⟨i, a⟩]) A3 (n + 1) c3 _ hl (by omega) hr3 er he2.out).mono ?_; rintro e w4 ⟨rfl, hb4⟩))
      go_ret2
      obtain ⟨h1, h2⟩ := HR.out
      subst h2
      exact ⟨_, by rw [h1]; rfl, World.ownsRow_nil _ _ _ _, by (repeat' (first | (with_reducible exact Below.refl _ _) | (with_reducible assumption) | (with_reducible refine Below.alloc ?_ ?_ _) | (with_reducible refine below_drewN ?_ _) | (with_reducible refine Below.drew ?_) | (with_reducible refine Below.setCell ?_ ?_ _) | (with_reducible refine below_two ?_ (by with_reducible assumption)) | go_size))⟩

theorem refAdd_any (l : List Wt) (i a : Int) (A : Option Addr) (n c : Nat) (w : World) (hn : Hid (l.length = n)) (hn' : n ≤ 9223372036854775807) (hA : WRow w A l) (r : List Wt) (er : Int) (h : addF l ⟨i, a⟩ = (r, er)) :
    Calls Try.prog 48 #[.slice A n c, .agg #[.int .i64 i, .int .i64 a]] w (Adds w r er) := by
  by_cases h0 : errC l = 0
  · by_cases h1 : n = 256
    · subst h1
      rw [addF_full h0 hn.out] at h
      injection h with h2 h3
      subst h2 h3
      exact refAdd_full l i a A c w hn hA (Lib.hid h0)
    · have hl := errC_zero.1 h0
      rw [hn.out] at hl
      by_cases h2 : errC (l ++ [⟨i, a⟩]) = 0
      · rw [addF_ok h0 (by rw [hn.out]; exact h1) h2] at h
        injection h with h3 h4
        subst h3 h4
        exact refAdd_last l i a A n c w hn (by omega) hA (Lib.hid h0) 0 (Lib.hid h2) _ (Lib.hid (.inl ⟨rfl, rfl⟩))
      · rw [addF_bad h0 (by rw [hn.out]; exact h1) h2] at h
        injection h with h3 h4
        subst h3 h4
        exact refAdd_last l i a A n c w hn (by omega) hA (Lib.hid h0) 2 (Lib.hid (errC_two (by rw [List.length_append, hn.out]; show n + 1 ≤ 256; omega) h2)) _ (Lib.hid (.inr ⟨rfl, rfl⟩))
  · rw [addF_err h0] at h
    injection h with h2 h3
    subst h2
    exact refAdd_err l i a A n c w hn hn' hA er (Lib.hid h3) (by rw [← h3]; exact h0)

end Go.Proofs.Ytodaknidbdicdaa
