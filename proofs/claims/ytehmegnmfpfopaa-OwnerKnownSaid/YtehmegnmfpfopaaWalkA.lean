/-
  The owner's state, and its small functions.
-/
import Derived.Test.YtehmegnmfpfopaaMapB
import Derived.Test.YtehmegnmfpfopaaStore
import Derived.Test.YtehmegnmfpfopaaRow
import Derived.Test.YtehmegnmfpfopaaExt
import Derived.Test.YtehmegnmfpfopaaTail
import Derived.WalkKit
import Derived.Deep.DeepMust
import Derived.WalkSpells
import Derived.WalkLawsBesides
import Derived.Handy
import Derived.Lib.Hide
import Derived.Deep.QuietTactic
import Derived.BigQuiet
namespace Go.Proofs.Ytehmegnmfpfopaa
open Go.RowKit
open Go.ChangeMaps (setBlock heap_setBlock_same heap_setBlock_other)

structure One (b : Nat) (w w' : World) : Prop where
  os : w'.os = w.os
  tape : w'.tape = w.tape
  output : w'.output = w.output
  size : w.heap.size ≤ w'.heap.size
  block : ∀ k, k < w.heap.size → k ≠ b → w'.heap[k]? = w.heap[k]?
section
variable {w w' a : World} {b : Nat}
theorem One.refl (b : Nat) (w : World) : One b w w := ⟨rfl, rfl, rfl, Nat.le_refl _, fun _ _ _ => rfl⟩
theorem One.alloc (h : One b a w) (o : Obj) : One b a (w.alloc o) := ⟨h.os, h.tape, h.output, Nat.le_trans h.size (by simp), fun k hk h1 => (Below.heap_alloc w o k (Nat.lt_of_lt_of_le hk h.size)).trans (h.block k hk h1)⟩
theorem One.drew (h : One b a w) : One b a w.drew := ⟨h.os, h.tape, h.output, h.size, h.block⟩
theorem One.set (h : One b a w) (i : Nat) (u : Value) : One b a (w.setCell ⟨b, i, none⟩ u) :=
  ⟨h.os, h.tape, h.output, by simpa [World.setCell] using h.size, fun k hk h1 => (Below.heap_setCell w _ u k h1).trans (h.block k hk h1)⟩
theorem One.setNew (h : One b a w) {p : Addr} (hp : a.heap.size ≤ p.block) (u : Value) : One b a (w.setCell p u) :=
  ⟨h.os, h.tape, h.output, by simpa [World.setCell] using h.size, fun k hk h1 => (Below.heap_setCell w _ u k (by omega)).trans (h.block k hk h1)⟩
theorem One.trans (h : One b a w) (h' : One b w w') : One b a w' :=
  ⟨h'.os.trans h.os, h'.tape.trans h.tape, h'.output.trans h.output, Nat.le_trans h.size h'.size, fun k hk h1 => (h'.block k (Nat.lt_of_lt_of_le hk h.size) h1).trans (h.block k hk h1)⟩
theorem One.of_below (b : Nat) (h : Below w.heap.size w w') : One b w w' := ⟨h.os, h.tape, h.output, h.size, fun k hk _ => h.block k hk⟩
theorem One.below {B : Nat} (h : One b w w') (hb : Below B a w) (h1 : B ≤ b) (h3 : B ≤ w.heap.size) : Below B a w' :=
  hb.trans ⟨h.os, h.tape, h.output, h.size, fun k hk => h.block k (by omega) (by omega)⟩
theorem Blk.one {k : Nat} {t : TypeId} {cs : Array Value} (h : Blk w k t cs) (hT : One b w w') (h1 : k ≠ b) : Blk w' k t cs := (hT.block k h.lt h1).trans h
theorem Row.one {A : Option Addr} {xs : List Value} (h : Row w A xs) (hT : One b w w') (h1 : 0 < xs.length → ∀ g off, A = some ⟨g, off, none⟩ → g ≠ b) : Row w' A xs := fun hp => by
  obtain ⟨g, off, e, hb, hc⟩ := h hp
  exact ⟨g, off, e, Nat.lt_of_lt_of_le hb hT.size, fun j u hu => (World.cell?_of_block (w := w) (hT.block g hb (h1 hp g off e))).trans (hc j u hu)⟩
theorem One.turn (h : w.mapTurned w' b) : One b w w' := by
  obtain ⟨es, clock, es', clock', hb, rfl⟩ := h
  exact ⟨rfl, rfl, rfl, by simp [setBlock], fun k _ hk => heap_setBlock_other hb _ hk⟩
end

/-- An owner: block b, its map in block m; S slabs of O objects; F says who owns what. -/
structure OwnAt (w : World) (b m : Nat) (S O n : Nat) (F : Int → Int → Int) : Prop where
  blk : Blk w b 47 #[.int .i64 (S : Int), .int .i64 (O : Int), .map (some m)]
  map : MapF w m n F
  s1 : 1 ≤ S
  s2 : S ≤ 256
  o1 : 1 ≤ O
  o2 : O ≤ 16
  in_ : ∀ x y, F x y ≠ 0 → (0 ≤ x ∧ x < S ∧ 0 ≤ y ∧ y < O) ∧ 1 ≤ F x y ∧ F x y ≤ 16
section
variable {w w' : World} {b m S O n : Nat} {F : Int → Int → Int}
theorem OwnAt.below (h : OwnAt w b m S O n F) (hb : Below w.heap.size w w') : OwnAt w' b m S O n F := ⟨h.blk.below hb, h.map.below hb, h.s1, h.s2, h.o1, h.o2, h.in_⟩
theorem OwnAt.ne (h : OwnAt w b m S O n F) : b ≠ m := fun e => by
  subst e
  obtain ⟨D, ⟨es, clock, hb, -⟩, -⟩ := h.map
  have h1 : w.heap[b]? = _ := h.blk
  rw [hb] at h1
  cases h1
theorem OwnAt.other (h : OwnAt w b m S O n F) {k : Nat} (hT : One k w w') (h1 : b ≠ k) (h2 : m ≠ k) : OwnAt w' b m S O n F := ⟨h.blk.one hT h1, h.map.heap (hT.block m h.map.lt h2), h.s1, h.s2, h.o1, h.o2, h.in_⟩
theorem OwnAt.mono (h : OwnAt w b m S O n F) {n' : Nat} (hn : n ≤ n') : OwnAt w b m S O n' F := ⟨h.blk, h.map.mono hn, h.s1, h.s2, h.o1, h.o2, h.in_⟩
end
def askF (S O : Nat) (x y : Int) : Int := bif decide (0 ≤ x ∧ x < S ∧ 0 ≤ y ∧ y < O) then 0 else 9
def grpB (g : Int) : Bool := decide (1 ≤ g ∧ g ≤ 16)
theorem askF_no {S O : Nat} {x y : Int} (h : ¬ (0 ≤ x ∧ x < S ∧ 0 ≤ y ∧ y < O)) : askF S O x y = 9 := by unfold askF; rw [decide_eq_false h]; rfl
theorem askF_yes {S O : Nat} {x y : Int} (h : 0 ≤ x ∧ x < S ∧ 0 ≤ y ∧ y < O) : askF S O x y = 0 := by unfold askF; rw [decide_eq_true h]; rfl

theorem none_any (w : World) (b m S O : Nat) (hb : Blk w b 47 #[.int .i64 (S : Int), .int .i64 (O : Int), .map (some m)]) :
    Calls Try.prog 25 #[.pointer (some ⟨b, 0, none⟩)] w fun e w' => e = .returned (.bool false) ∧ w' = w := by
  have c2 := hb.cell 2
  have q45 : ∀ (w : World) (r : Option Nat), (binOp .eql 45 (.map r) (.map none)).run Try.prog w = .ok (.bool r.isNone) w := fun w r => run_eql_map_nil w _ _ _ r Try.underlying45
  go_enter Try.func25, Try.ntmps25
  go_wp2
  go_ret
  exact ⟨rfl, rfl⟩
theorem grouped_any (g : Int) (w : World) : Calls Try.prog 22 #[.int .i64 g] w fun e w' => e = .returned (.bool (grpB g)) ∧ w' = w := by
  unfold grpB
  rcases (by omega : (1 ≤ g ∧ g ≤ 16) ∨ (¬ 1 ≤ g) ∨ (1 ≤ g ∧ ¬ g ≤ 16)) with ⟨h1, h2⟩ | h1 | ⟨h1, h2⟩ <;>
    (go_enter Try.func22, Try.ntmps22; go_wp2; go_ret; exact ⟨ret_bool (by simp; omega), rfl⟩)
set_option maxRecDepth 100000 in
set_option maxHeartbeats 2000000 in
theorem asked_any (w : World) (b m S O n : Nat) (F : Int → Int → Int) (h : OwnAt w b m S O n F) (x y : Int) : Calls Try.prog 21 #[.pointer (some ⟨b, 0, none⟩), .agg #[.int .i64 x, .int .i64 y]] w fun e w' =>
    e = .returned (.int .i64 (askF S O x y)) ∧ Below w.heap.size w w' := by
  have hblk := h.blk
  have hlt := h.blk.lt
  have hS : (S : Int) ≤ 256 := by have := h.s2; omega
  have hO : (O : Int) ≤ 16 := by have := h.o2; omega
  have c0 := h.blk.cell 0
  have c1 := h.blk.cell 1
  clear h
  rcases (by omega : x < 0 ∨ (0 ≤ x ∧ (S : Int) ≤ x) ∨ (0 ≤ x ∧ x < S ∧ y < 0) ∨ (0 ≤ x ∧ x < S ∧ 0 ≤ y ∧ (O : Int) ≤ y) ∨ (0 ≤ x ∧ x < S ∧ 0 ≤ y ∧ y < O)) with h1 | ⟨h1, h2⟩ | ⟨h1, h2, h3⟩ | ⟨h1, h2, h3, h4⟩ | ⟨h1, h2, h3, h4⟩
  all_goals
    first | rw [askF_yes ⟨by assumption, by assumption, by assumption, by assumption⟩] | rw [askF_no (by omega)]
  all_goals
    go_enter Try.func21, Try.ntmps21
    go_wp2_with (first | (go_at_call 25; (with_reducible refine (none_any _ b m S O (hblk.alloc _)).mono ?_); rintro e w1 ⟨rfl, hw1⟩; replace hw1 := hw1.symm; subst hw1))
  all_goals (refine wp_region_ext (w.heap.size + 1) (by kernel_rfl) (by kernel_rfl) (by go_size) (fun hxc hxf hxh hxn => ?_); (repeat (first | go_big_quiet_step (fail) | quiet_step (fail))); refine wpQuiet_nil ?_; intro w1 hs1; clear hxc hxf hxh hxn; obtain ⟨hb1, hz1, hc1, hf1⟩ := ext_known hs1 (w.heap.size + 1) (by go_size); clear hs1)
  all_goals go_wp2
  all_goals go_ret
  all_goals exact ⟨rfl, below_box hb1⟩

end Go.Proofs.Ytehmegnmfpfopaa
