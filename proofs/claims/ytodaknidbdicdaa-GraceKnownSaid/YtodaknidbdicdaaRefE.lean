/-
  The reference's New.
-/
import Derived.Test.YtodaknidbdicdaaRefD
import Derived.Deep.OwnRows
import Derived.WalkKit
import Derived.Deep.DeepMust
import Derived.WalkSpells
import Derived.WalkLawsBesides
import Derived.Handy
import Derived.Lib.Hide
import Derived.Deep.QuietTactic
import Derived.BigQuiet
namespace Go.Proofs.Ytodaknidbdicdaa
open Go.RowKit

theorem rnew_no (x : Int) (h : ¬ (1 ≤ x ∧ x ≤ 8)) (w : World) : Calls Try.prog 10 #[.int .i64 x] w fun e w' => e = .returned (.tuple #[.pointer none, .int .i64 2]) ∧ w' = w := by
  rcases (by omega : x < 1 ∨ (¬ x < 1 ∧ 8 < x)) with h1 | ⟨h1, h2⟩ <;>
    (go_enter Try.func10, Try.ntmps10; go_wp2; go_ret2; exact ⟨rfl, rfl⟩)

theorem Try.infoB : (Try.prog.info? 4).map (fun i => (i.zero, i.size, i.bytes)) = some (some (.bool false), 1, 1) := by kernel_rfl
theorem Try.infoW : (Try.prog.info? 66).map (fun i => (i.zero, i.size, i.bytes)) = some (some (.slice none 0 0), 1, 24) := by kernel_rfl

theorem made_row {w : World} {g n : Nat} {t : TypeId} {z : Value} (h : Blk w g t (madeCells #[z] n)) : RowT w g t (List.replicate n z) := by
  have e : (madeCells #[z] n).toList = List.replicate n z := toList_madeCells_one _ _
  refine ⟨_, h, ?_⟩
  rw [e]
  exact List.take_length
theorem refIn_new {w : World} {B s d r' n C : Nat} (hs : w.heap.size = s) (hd : Blk w d 3 (madeCells #[.int .i64 0] C)) (hr : Blk w r' 66 (madeCells #[.slice none 0 0] C)) (hn : Blk w n 4 (madeCells #[.bool false] C))
    (b2 : B ≤ d) (b3 : B ≤ r') (b4 : B ≤ n) (b1 : B ≤ s) (gs : List Nat) (hg : ∀ g ∈ [s, d, r', n], g ∈ gs) (hl : ∀ g ∈ gs, g < s + 1) :
    RefIn (w.alloc (.cells #[.slice (some ⟨d, 0, none⟩) C C, .slice (some ⟨r', 0, none⟩) C C, .int .i64 0, .bool false, .slice (some ⟨n, 0, none⟩) C C] 70)) B s d r' n gs (newG C) := by
  subst hs
  refine ⟨Blk.new w _ _, ?_, ⟨_, (made_row hr).alloc _, List.length_replicate, fun k hk => ⟨none, 0, 0, ?_, HasRow.nil _ _ _ _⟩⟩, ?_, b1, b2, b3, b4, hg, fun g h => by rw [World.size_alloc]; exact hl g h⟩
  · have e : deepV (newG C) = List.replicate C (.int .i64 0) := by
      show (List.range C).map (fun _ => Value.int .i64 0) = _
      rw [List.map_const', List.length_range]
    rw [e]
    exact (made_row hd).alloc _
  · have hk' : k < C := hk
    rw [List.getElem?_replicate, if_pos hk']
  · have e : needV (newG C) = List.replicate C (.bool false) := by
      show (List.range C).map (fun _ => Value.bool false) = _
      rw [List.map_const', List.length_range]
    rw [e]
    exact (made_row hn).alloc _

def NewPost (w : World) (C : Nat) (e : Ending) (w' : World) : Prop := ∃ r da ra na, e = .returned (.tuple #[.pointer (some ⟨r, 0, none⟩), .int .i64 0]) ∧ (∀ g ∈ [r, da, ra, na], g < w'.heap.size) ∧
  (∀ gs : List Nat, (∀ g ∈ [r, da, ra, na], g ∈ gs) → (∀ g ∈ gs, g < w'.heap.size) → RefIn w' w.heap.size r da ra na gs (newG C)) ∧ Below w.heap.size w w'
theorem new_fin {w0 w : World} {s d r' n C : Nat} (hs : w.heap.size = s) (hb : Below w0.heap.size w0 w) (hd : Blk w d 3 (madeCells #[.int .i64 0] C)) (hr : Blk w r' 66 (madeCells #[.slice none 0 0] C)) (hn : Blk w n 4 (madeCells #[.bool false] C))
    (b2 : w0.heap.size ≤ d) (b3 : w0.heap.size ≤ r') (b4 : w0.heap.size ≤ n) :
    NewPost w0 C (.returned (.tuple #[.pointer (some ⟨s, 0, none⟩), .int .i64 0])) (w.alloc (.cells #[.slice (some ⟨d, 0, none⟩) C C, .slice (some ⟨r', 0, none⟩) C C, .int .i64 0, .bool false, .slice (some ⟨n, 0, none⟩) C C] 70)).drew := by
  have z := hb.size
  have hz : (w.alloc (.cells #[.slice (some ⟨d, 0, none⟩) C C, .slice (some ⟨r', 0, none⟩) C C, .int .i64 0, .bool false, .slice (some ⟨n, 0, none⟩) C C] 70)).drew.heap.size = s + 1 := by
    rw [World.size_drew, World.size_alloc, hs]
  refine ⟨s, d, r', n, rfl, fun g hg => ?_, fun gs hg hl => ?_, (hb.alloc z _).drew⟩
  · rw [hz]
    simp only [List.mem_cons, List.not_mem_nil, or_false] at hg
    have := hd.lt
    have := hr.lt
    have := hn.lt
    omega
  · exact (refIn_new hs hd hr hn b2 b3 b4 (by omega) gs hg (fun g h => by have := hl g h; rw [hz] at this; exact this)).drew
set_option maxRecDepth 100000 in
set_option maxHeartbeats 4000000 in
theorem rnew_ok (C : Nat) (h1 : 1 ≤ C) (h2 : C ≤ 8) (w : World) : Calls Try.prog 10 #[.int .i64 (C : Int)] w (NewPost w C) := by
  have m1 := fun v => run_make_row' (P := Try.prog) 45 3 (.int .i64 0) 8 Try.underlying45 Try.infoInt rfl .i64 .i64 C (by omega) (by omega) v
  have m2 := fun v => run_make_row' (P := Try.prog) 67 66 (.slice none 0 0) 24 Try.underlying67 Try.infoW rfl .i64 .i64 C (by omega) (by omega) v
  have m3 := fun v => run_make_row' (P := Try.prog) 68 4 (.bool false) 1 Try.underlying68 Try.infoB rfl .i64 .i64 C (by omega) (by omega) v
  have a1 : ¬ (C : Int) < 1 := by omega
  have a2 : ¬ (8 : Int) < (C : Int) := by omega
  go_enter Try.func10, Try.ntmps10
  go_wp2
  go_region
  all_goals go_wp2
  all_goals go_ret2
  all_goals refine new_fin (by rw [World.size_alloc, World.size_alloc, World.size_alloc]) (by (repeat' (first | (with_reducible exact Below.refl _ _) | (with_reducible assumption) | (with_reducible refine Below.alloc ?_ ?_ _) | (with_reducible refine below_drewN ?_ _) | (with_reducible refine Below.drew ?_) | (with_reducible refine Below.setCell ?_ ?_ _) | (with_reducible refine below_two ?_ (by with_reducible assumption)) | go_size))) ?_ ?_ ?_ (by omega) (by omega) (by omega)
  all_goals first
    | exact Blk.new3 _ _ _ _ _
    | exact (Blk.new2 _ _ _ _).alloc _
    | exact ((Blk.new _ _ _).alloc _).alloc _

end Go.Proofs.Ytodaknidbdicdaa
