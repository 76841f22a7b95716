/-
  The reference's New.
-/
import Derived.Test.YtehmegnmfpfopaaRefD
import Derived.Test.YtehmegnmfpfopaaReads
import Derived.Test.YtehmegnmfpfopaaOpenRow
import Derived.Laws.OwnMore
import Derived.Deep.RegionLaw
import Derived.WalkKit
import Derived.Deep.DeepMust
import Derived.WalkSpells
import Derived.WalkLawsBesides
import Derived.Handy
import Derived.Lib.Hide
import Derived.Deep.QuietTactic
import Derived.BigQuiet
namespace Go.Proofs.Ytehmegnmfpfopaa
open Go.RowKit

theorem Try.infoInt : (Try.prog.info? 3).map (fun i => (i.zero, i.size, i.bytes)) = some (some (.int .i64 0), 1, 8) := by kernel_rfl
theorem Try.infoRow : (Try.prog.info? 53).map (fun i => (i.zero, i.size, i.bytes)) = some (some (.slice none 0 0), 1, 24) := by kernel_rfl

theorem rnew_no (x y : Int) (hx : ¬ (1 ≤ x ∧ x ≤ 256 ∧ 1 ≤ y ∧ y ≤ 16)) (w : World) : Calls Try.prog 8 #[.int .i64 x, .int .i64 y] w fun e w' => e = .returned (.tuple #[.pointer none, .int .i64 2]) ∧ w' = w := by
  rcases (by omega : x < 1 ∨ (¬ x < 1 ∧ 256 < x) ∨ (¬ x < 1 ∧ ¬ 256 < x ∧ y < 1) ∨ (¬ x < 1 ∧ ¬ 256 < x ∧ ¬ y < 1 ∧ 16 < y)) with h1 | ⟨h1, h2⟩ | ⟨h1, h2, h3⟩ | ⟨h1, h2, h3, h4⟩ <;>
    (go_enter Try.func8, Try.ntmps8; go_wp2; go_ret2; exact ⟨rfl, rfl⟩)

theorem Row.of_one {w : World} {g : Nat} {t : TypeId} {u : Value} (h : Blk w g t #[u]) : Row w (some ⟨g, 0, none⟩) [u] := fun _ =>
  ⟨g, 0, rfl, h.lt, fun j x hx => by rw [Nat.zero_add, h.cell, ← Array.getElem?_toList]; exact hx⟩
theorem zeros_row (O : Nat) : (madeCells (Value.int .i64 0).cells (O * 1)).toList = List.replicate O (Value.int .i64 0) := by
  rw [Nat.mul_one]
  exact toList_madeCells_one _ _
theorem rowV_zero (s O : Nat) : rowV (fun _ _ => 0) s O = List.replicate O (Value.int .i64 0) := by
  unfold rowV
  rw [List.map_const', List.length_range]

theorem own_far {w w' : World} {v : Value} {base : Nat} {e : TypeId} {size n : Nat} {xs : List Value} (ho : w.ownsRow base e size v n xs) (hg : w.grownBy w' v.ownBlock) {k : Nat} (hk : k < w.heap.size) {o : Obj} (ho2 : w.heap[k]? = some o) (hne : ∀ cs, o ≠ .cells cs e) : w'.heap[k]? = w.heap[k]? :=
  hg.block k hk (fun e' => by
    rcases ho.2 with ⟨rfl, -⟩ | ⟨g, cap, cur, rfl, -, h2, -⟩
    · cases e'
    · have e2 : k = g := by simpa [Value.ownBlock] using e'
      subst e2
      rw [ho2] at h2
      exact hne cur (by simpa using h2))
theorem own_blk {w w' : World} {v : Value} {base : Nat} {e : TypeId} {size n : Nat} {xs : List Value} (ho : w.ownsRow base e size v n xs) (hg : w.grownBy w' v.ownBlock) {k : Nat} {t : TypeId} {cs : Array Value} (hk : Blk w k t cs) (hne : t ≠ e) : Blk w' k t cs :=
  (own_far ho hg hk.lt hk (fun cs h => by simp at h; exact hne h.2)).trans hk
theorem own_row {w w' : World} {v : Value} {base : Nat} {e : TypeId} {size n : Nat} {xs : List Value} (ho : w.ownsRow base e size v n xs) (hg : w.grownBy w' v.ownBlock) {k : Nat} {t : TypeId} {vs : List Value} (hk : RowT w k t vs) (hne : t ≠ e) : RowT w' k t vs := by
  obtain ⟨cur, h1, h2⟩ := hk
  exact ⟨cur, own_blk ho hg h1 hne, h2⟩
theorem own_belowR {B : Nat} {a w w' : World} {v : Value} {n : Nat} {e : TypeId} {xs : List Value} {base size : Nat} (h : Below B a w) (hg : w.grownBy w' v.ownBlock) (ho : w.ownsRow base e size v n xs) (hB : B ≤ w.heap.size) (hbase : B ≤ base) : Below B a w' :=
  below_grown h hg hB (fun g e' => by
    rcases ho.2 with ⟨rfl, -⟩ | ⟨g', cap, cur, rfl, h1, -⟩
    · cases e'
    · have e2 : g' = g := by simpa [Value.ownBlock] using e'
      omega)

/-- The new reference behind i rows. -/
structure NewIn (w0 w : World) (r O i : Nat) (gs : List Nat) (A : Option Addr) (c : Nat) : Prop where
  len : gs.length = i
  blk : Blk w r 52 #[.slice A i c]
  own : w.ownsRow (r + 1) 53 1 (.slice A i c) i (outV gs O)
  row : ∀ g ∈ gs, RowT w g 3 (List.replicate O (.int .i64 0))
  dup : gs.Nodup
  base : ∀ g ∈ gs, r ≤ g
  low : Below r w0 w
theorem NewIn.start (w : World) (O : Nat) : NewIn w (w.alloc (.cells #[.slice none 0 0] 52)) w.heap.size O 0 [] none 0 :=
  ⟨rfl, Blk.new w _ _, World.ownsRow_nil _ _ _ _, fun g hg => by (cases hg), List.nodup_nil, fun g hg => by (cases hg), by (repeat' (first | (with_reducible exact Below.refl _ _) | (with_reducible assumption) | (with_reducible refine Below.alloc ?_ ?_ _) | (with_reducible refine below_drewN ?_ _) | (with_reducible refine Below.drew ?_) | (with_reducible refine Below.setCell ?_ ?_ _) | (with_reducible refine below_two ?_ (by with_reducible assumption)) | go_size))⟩
theorem NewIn.step {w0 w w1 w3 : World} {r O i : Nat} {gs : List Nat} {A A3 : Option Addr} {c c3 : Nat} (h : NewIn w0 w r O i gs A c) (hO : 0 < O)
    (hown : w1.ownsRow w.heap.size 3 1 (.slice (some ⟨w.drew.heap.size, 0, none⟩) O O) O (madeCells (Value.int .i64 0).cells (O * 1)).toList) (hgr : w.drew.grownBy w1 none)
    (ho3 : w3.ownsRow (r + 1) 53 1 (.slice A3 (i + 1) c3) (i + 1) (outV gs O ++ [.slice (some ⟨w.heap.size, 0, none⟩) O O]))
    (hg3 : (w1.alloc (.cells #[.slice (some ⟨w.heap.size, 0, none⟩) O O] 53)).grownBy w3 (Value.slice A i c).ownBlock) :
    NewIn w0 (w3.setCell ⟨r, 0, none⟩ (.slice A3 (i + 1) c3)) r O (i + 1) (gs ++ [w.heap.size]) A3 c3 := by
  have hrl := h.blk.lt
  have hb1 : Below w.heap.size w w1 := below_grown (Below.refl _ w).drew hgr (Nat.le_refl _) (fun g hg => by cases hg)
  have hs1 : w.heap.size ≤ w1.heap.size := hb1.size
  have hok : ∀ k, (Value.slice A i c).ownBlock = some k → k < w.drew.heap.size := fun k hk => by
    rcases h.own.2 with ⟨h1, -⟩ | ⟨g, cap, cur, h1, -, h2, -⟩
    · rw [h1] at hk; cases hk
    · rw [h1] at hk
      have e2 : g = k := by simpa [Value.ownBlock] using hk
      rw [← e2]
      exact lt_of_block h2
  have HO1 : (w1.alloc (.cells #[.slice (some ⟨w.heap.size, 0, none⟩) O O] 53)).ownsRow (r + 1) 53 1 (.slice A i c) i (outV gs O) := (World.ownsRow.kept (w := w.drew) h.own hgr (by cases h : (Value.slice A i c).ownBlock <;> simp)).alloc _
  obtain ⟨g', c', e1, -, -, hrow⟩ := RowT.of_own hown (by rw [zeros_row]; simp) hO
  simp only [Value.slice.injEq, Option.some.injEq, Addr.mk.injEq, and_true, true_and] at e1
  obtain ⟨rfl, rfl⟩ := e1
  rw [zeros_row] at hrow
  have hk : ∀ {g : Nat}, RowT w1 g 3 (List.replicate O (.int .i64 0)) → RowT (w3.setCell ⟨r, 0, none⟩ (.slice A3 (i + 1) c3)) g 3 (List.replicate O (.int .i64 0)) := fun {g} h1 => by
    have h2 := own_row HO1 hg3 (h1.alloc _) (by decide)
    have hne : g ≠ r := fun e => by
      subst e
      obtain ⟨cur, h3, -⟩ := h1
      have h4 : Blk w1 g 52 _ := h.blk.below (hb1.mono (Nat.le_refl _))
      unfold Blk at h3 h4
      rw [h3] at h4
      simp at h4
    exact h2.far hne _
  refine ⟨by simp [h.len], ?_, ?_, ?_, ?_, ?_, ?_⟩
  · have h1 := own_blk HO1 hg3 ((h.blk.below hb1).alloc _) (by decide)
    exact h1.set_ 0 _
  · have e : outV (gs ++ [w.heap.size]) O = outV gs O ++ [.slice (some ⟨w.heap.size, 0, none⟩) O O] := by simp [outV]
    rw [e]
    exact RowKit.ownsRow_setCell_below ho3 (by simp) _
  · intro g hg
    rcases List.mem_append.1 hg with h1 | h1
    · exact hk ((h.row g h1).below hb1)
    · simp only [List.mem_singleton] at h1
      subst h1
      exact hk hrow
  · refine List.nodup_append.2 ⟨h.dup, by simp, fun a ha b hb e => ?_⟩
    simp only [List.mem_singleton] at hb
    have := (h.row a ha).lt
    omega
  · intro g hg
    rcases List.mem_append.1 hg with h1 | h1
    · exact h.base g h1
    · simp only [List.mem_singleton] at h1
      omega
  · have hb2 : Below r w0 (w1.alloc (.cells #[.slice (some ⟨w.heap.size, 0, none⟩) O O] 53)) := (h.low.trans (hb1.mono (by omega))).alloc (by omega) _
    exact Below.setCell (own_belowR hb2 hg3 HO1 (by simp; omega) (by omega)) (Nat.le_refl _) _
theorem NewIn.done {w0 w : World} {r O S : Nat} {gs : List Nat} {A : Option Addr} {c : Nat} (h : NewIn w0 w r O S gs A c) (h1 : 1 ≤ S) (h2 : S ≤ 256) (h3 : 1 ≤ O) (h4 : O ≤ 16) : RefAt w r r S O (fun _ _ => 0) := by
  obtain ⟨ga, c', e, -, h6, h7⟩ := RowT.of_own h.own (by rw [outV_len, h.len]) h1
  simp only [Value.slice.injEq, true_and] at e
  obtain ⟨rfl, rfl⟩ := e
  exact ⟨ga, c, gs, h.blk, h.len, h7, fun s hs => by rw [rowV_zero]; exact h.row _ (List.getElem_mem hs), h.dup, h.base, Nat.le_refl _, by omega, h1, h2, h3, h4⟩

set_option maxRecDepth 100000 in
set_option maxHeartbeats 4000000 in
theorem rnew_ok (S O : Nat) (h1 : 1 ≤ S) (h2 : S ≤ 256) (h3 : 1 ≤ O) (h4 : O ≤ 16) (w : World) : Calls Try.prog 8 #[.int .i64 (S : Int), .int .i64 (O : Int)] w fun e w' =>
    ∃ r, e = .returned (.tuple #[.pointer (some ⟨r, 0, none⟩), .int .i64 0]) ∧ RefAt w' w.heap.size r S O (fun _ _ => 0) ∧ Below w.heap.size w w' := by
  obtain ⟨ti, hi0, hz0, hz1, hz2⟩ := info_parts Try.infoInt
  have J0 := Lib.hid hi0
  have J1 := Lib.hid hz0
  have J2 := Lib.hid hz1
  have J3 := Lib.hid hz2
  clear hi0 hz0 hz1 hz2
  obtain ⟨tr, hi0, hz0, hz1, hz2⟩ := info_parts Try.infoRow
  have K0 := Lib.hid hi0
  have K1 := Lib.hid hz0
  have K2 := Lib.hid hz1
  have K3 := Lib.hid hz2
  clear hi0 hz0 hz1 hz2
  have a1 : ¬ (S : Int) < 1 := by omega
  have a2 : ¬ (256 : Int) < (S : Int) := by omega
  have a3 : ¬ (O : Int) < 1 := by omega
  have a4 : ¬ (16 : Int) < (O : Int) := by omega
  go_enter Try.func8, Try.ntmps8
  go_wp2
  go_loopw [7] (fun q wr => ∃ (i : Nat) (gs : List Nat) (A : Option Addr) (c : Nat), i ≤ S ∧ q = .int .i64 i ∧ Hid (NewIn w wr w.heap.size O i gs A c)) (fun q _ => S - (intOf q).toNat)
  case atStart => exact ⟨0, [], none, 0, by omega, rfl, Lib.hid (NewIn.start w O)⟩
  case round =>
    obtain ⟨i, gs, A, c, hi, rfl, HN⟩ := hrel
    have hB := HN.out.blk
    have HO := Lib.hid HN.out.own
    have hrl := hB.lt
    have i0 : (0 : Int) ≤ (i : Int) := by omega
    by_cases hiS : i < S
    · have i1 : (i : Int) < (S : Int) := by omega
      obtain ⟨w1, hmk, hown, hgr⟩ := run_make_full (P := Try.prog) wr.drew wr.heap.size 53 3 ti (.int .i64 0) 1 Try.underlying53 J0.out J1.out J2.out .i64 .i64 O (by rw [J3.out]; omega) (by unfold maxLen; omega) (Nat.le_refl _)
      have hmk2 : (Instr.makeSlice 53 (.int .i64 (O : Int)) (.int .i64 (O : Int))).run Try.prog wr.drew = .ok (.slice (some ⟨wr.heap.size, 0, none⟩) O O) w1 := hmk
      have hb1 : Below wr.heap.size wr w1 := below_grown (Below.refl _ wr).drew hgr (Nat.le_refl _) (fun g hg => by cases hg)
      have x0 : wr.cell? ⟨w.heap.size, 0, none⟩ = some (.slice A i c) := hB.cell 0
      have f0 := hB.frozen 0
      have x1 := (hb1.cell (p := ⟨w.heap.size, 0, none⟩) hrl).trans x0
      clear hmk
      have hs1 : wr.heap.size ≤ w1.heap.size := hb1.size
      have HO1 := Lib.hid ((World.ownsRow.kept (w := wr.drew) HO.out hgr (by cases h : (Value.slice A i c).ownBlock <;> simp)).alloc (.cells #[.slice (some ⟨wr.heap.size, 0, none⟩) O O] 53))
      have HB1 := Lib.hid ((hB.below hb1).alloc (.cells #[.slice (some ⟨wr.heap.size, 0, none⟩) O O] 53))
      have HRd := Lib.hid (Row.reads (n := 1) (Row.of_one (Blk.new w1 53 #[.slice (some ⟨wr.heap.size, 0, none⟩) O O])) rfl)
      have x2 : (w1.alloc (.cells #[.slice (some ⟨wr.heap.size, 0, none⟩) O O] 53)).cell? ⟨w.heap.size, 0, none⟩ = some (.slice A i c) := HB1.out.cell 0
      have Hown := Lib.hid hown
      have Hgr := Lib.hid hgr
      clear hown hgr hb1
      go_wp2
      go_region_law (refine step_append_any _ rfl _ _ 50 rfl (w.heap.size + 1) 53 tr (.slice none 0 0) 1 24 Try.underlying50 K0.out K1.out K2.out K3.out rfl (by decide) _ i _ rfl HO1.out _ (some ⟨w1.heap.size, 0, none⟩) 1 1 [.slice (some ⟨wr.heap.size, 0, none⟩) O O] rfl HRd.out (fun u hu => by simp at hu; subst hu; rfl) (by unfold maxLen; omega) (by omega) (by go_size) ?_; intro v3 w3 ho3 hg3 hq3; clear hq3; have HB3 := own_blk HO1.out hg3 HB1.out (by decide); have x3 : w3.cell? ⟨w.heap.size, 0, none⟩ = some (.slice A i c) := HB3.cell 0; have f3 := HB3.frozen 0; obtain ⟨A3, c3, rfl, -⟩ := Row.slice ho3; have HS := Lib.hid (HN.out.step (by omega) Hown.out Hgr.out ho3 hg3); clear ho3 hg3 HB3)
      all_goals (go_wp2; go_roundw)
      all_goals (first | exact ⟨i + 1, gs ++ [wr.heap.size], _, _, by omega, by go_num, HS⟩ | (simp [intOf]; omega))
    · have i1 : ¬ (i : Int) < (S : Int) := by omega
      obtain rfl : i = S := by omega
      have HD := Lib.hid (HN.out.done h1 h2 h3 h4)
      have HL := Lib.hid HN.out.low
      go_wp2
      go_ret2
      exact ⟨_, rfl, HD.out, HL.out⟩

end Go.Proofs.Ytehmegnmfpfopaa
