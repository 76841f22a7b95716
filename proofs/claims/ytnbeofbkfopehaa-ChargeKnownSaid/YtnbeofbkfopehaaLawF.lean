/-
  The walk of the closed law ChargeKnown.
-/
import Derived.Test.YtnbeofbkfopehaaNil
import Derived.Test.YtnbeofbkfopehaaRowsD
import Derived.Deep.RegionHeld3
import Derived.BigRegion
import Derived.WalkKit
import Derived.Deep.DeepMust
import Derived.WalkSpells
import Derived.WalkLawsBesides
import Derived.Handy
import Derived.Lib.Hide
import Derived.Deep.QuietTactic
import Derived.BigQuiet
namespace Go.Proofs.Ytnbeofbkfopehaa
open Go.RowKit

theorem Try.infoDo : (Try.prog.info? 29).map (fun i => (i.zero, i.size, i.bytes)) = some (some (.agg #[.int .i64 0, .int .i64 0, .int .i64 0, .slice none 0 0]), 4, 48) := by kernel_rfl
theorem Blk.newAt {w : World} {n : Nat} (h : w.heap.size = n) (t : TypeId) (cs : Array Value) : Blk (w.alloc (.cells cs t)) n t cs := by subst h; exact Blk.new w t cs
theorem Row.of_blkI {w : World} {g : Nat} {t : TypeId} {cs : Array Value} (h : Blk w g t cs) {xs : List Value} (e : cs.toList = xs) : Row w (some ⟨g, 0, none⟩) xs := fun _ =>
  ⟨g, 0, rfl, h.lt, fun j u hu => by rw [Nat.zero_add, h.cell, ← Array.getElem?_toList, e]; exact hu⟩

def knN : Nat → Int
  | 0 => -9223372036854775808
  | 1 => -1
  | 2 => 0
  | 3 => 1
  | 4 => 100
  | 5 => 9007199254740991
  | 6 => 9007199254740992
  | _ => 9223372036854775807
def knP : Nat → List Int
  | 0 => []
  | 1 => [1]
  | 2 => [16, 8, 4, 2, 1]
  | 3 => [0]
  | 4 => [17]
  | 5 => [1, 2, 1]
  | 6 => [1, 2, 3, 4, 5, 6, 7, 8]
  | 7 => [1, 2, 3, 4, 5, 6, 7, 8, 9]
  | _ => [9, -1]
def knA (h : Nat) : Nat → Option Addr
  | 0 => none
  | 1 => some ⟨h + 1, 0, none⟩
  | 2 => some ⟨h + 1 + 1, 0, none⟩
  | 3 => some ⟨h + 1 + 1 + 1, 0, none⟩
  | 4 => some ⟨h + 1 + 1 + 1 + 1, 0, none⟩
  | 5 => some ⟨h + 1 + 1 + 1 + 1 + 1, 0, none⟩
  | 6 => some ⟨h + 1 + 1 + 1 + 1 + 1 + 1, 0, none⟩
  | 7 => some ⟨h + 1 + 1 + 1 + 1 + 1 + 1 + 1, 0, none⟩
  | _ => some ⟨h + 1 + 1 + 1 + 1 + 1 + 1 + 1 + 1, 0, none⟩
def knC : Nat → Nat
  | 0 => 0
  | 1 => 1
  | 2 => 5
  | 3 => 1
  | 4 => 1
  | 5 => 3
  | 6 => 8
  | 7 => 9
  | _ => 2
/-- What lies in the law's lists. -/
def KnAt (w : World) (n0 p0 : Nat) : Prop :=
  n0 < w.heap.size ∧ p0 < w.heap.size ∧ (∀ k, k < 8 → w.cell? ⟨n0, k, none⟩ = some (.int .i64 (knN k))) ∧
  ∀ k, k < 9 → w.cell? ⟨p0, k, none⟩ = some (.slice (knA n0 k) (knP k).length (knC k)) ∧ Row w (knA n0 k) (intsV (knP k)) ∧ (knP k).length ≤ 9
set_option maxRecDepth 100000 in
theorem known_laid (w : World) : KnAt ((((((((((w.alloc (.cells #[.int .i64 (-9223372036854775808), .int .i64 (-1), .int .i64 0, .int .i64 1, .int .i64 100, .int .i64 9007199254740991, .int .i64 9007199254740992, .int .i64 9223372036854775807] 3)).alloc (.cells #[.int .i64 1] 3)).alloc (.cells #[.int .i64 16, .int .i64 8, .int .i64 4, .int .i64 2, .int .i64 1] 3)).alloc (.cells #[.int .i64 0] 3)).alloc (.cells #[.int .i64 17] 3)).alloc (.cells #[.int .i64 1, .int .i64 2, .int .i64 1] 3)).alloc (.cells #[.int .i64 1, .int .i64 2, .int .i64 3, .int .i64 4, .int .i64 5, .int .i64 6, .int .i64 7, .int .i64 8] 3)).alloc (.cells #[.int .i64 1, .int .i64 2, .int .i64 3, .int .i64 4, .int .i64 5, .int .i64 6, .int .i64 7, .int .i64 8, .int .i64 9] 3)).alloc (.cells #[.int .i64 9, .int .i64 (-1)] 3)).alloc (.cells #[.slice none 0 0, .slice (some ⟨w.heap.size + 1, 0, none⟩) 1 1, .slice (some ⟨w.heap.size + 1 + 1, 0, none⟩) 5 5, .slice (some ⟨w.heap.size + 1 + 1 + 1, 0, none⟩) 1 1, .slice (some ⟨w.heap.size + 1 + 1 + 1 + 1, 0, none⟩) 1 1, .slice (some ⟨w.heap.size + 1 + 1 + 1 + 1 + 1, 0, none⟩) 3 3, .slice (some ⟨w.heap.size + 1 + 1 + 1 + 1 + 1 + 1, 0, none⟩) 8 8, .slice (some ⟨w.heap.size + 1 + 1 + 1 + 1 + 1 + 1 + 1, 0, none⟩) 9 9, .slice (some ⟨w.heap.size + 1 + 1 + 1 + 1 + 1 + 1 + 1 + 1, 0, none⟩) 2 2] 27)) w.heap.size (w.heap.size + 1 + 1 + 1 + 1 + 1 + 1 + 1 + 1 + 1) := by
  obtain ⟨w1, hw1⟩ : ∃ x : World, x = w.alloc (.cells #[.int .i64 (-9223372036854775808), .int .i64 (-1), .int .i64 0, .int .i64 1, .int .i64 100, .int .i64 9007199254740991, .int .i64 9007199254740992, .int .i64 9223372036854775807] 3) := ⟨_, rfl⟩
  have s1 : w1.heap.size = w.heap.size + 1 := by rw [hw1, World.size_alloc]
  obtain ⟨w2, hw2⟩ : ∃ x : World, x = w1.alloc (.cells #[.int .i64 1] 3) := ⟨_, rfl⟩
  have s2 : w2.heap.size = w.heap.size + 1 + 1 := by rw [hw2, World.size_alloc, s1]
  obtain ⟨w3, hw3⟩ : ∃ x : World, x = w2.alloc (.cells #[.int .i64 16, .int .i64 8, .int .i64 4, .int .i64 2, .int .i64 1] 3) := ⟨_, rfl⟩
  have s3 : w3.heap.size = w.heap.size + 1 + 1 + 1 := by rw [hw3, World.size_alloc, s2]
  obtain ⟨w4, hw4⟩ : ∃ x : World, x = w3.alloc (.cells #[.int .i64 0] 3) := ⟨_, rfl⟩
  have s4 : w4.heap.size = w.heap.size + 1 + 1 + 1 + 1 := by rw [hw4, World.size_alloc, s3]
  obtain ⟨w5, hw5⟩ : ∃ x : World, x = w4.alloc (.cells #[.int .i64 17] 3) := ⟨_, rfl⟩
  have s5 : w5.heap.size = w.heap.size + 1 + 1 + 1 + 1 + 1 := by rw [hw5, World.size_alloc, s4]
  obtain ⟨w6, hw6⟩ : ∃ x : World, x = w5.alloc (.cells #[.int .i64 1, .int .i64 2, .int .i64 1] 3) := ⟨_, rfl⟩
  have s6 : w6.heap.size = w.heap.size + 1 + 1 + 1 + 1 + 1 + 1 := by rw [hw6, World.size_alloc, s5]
  obtain ⟨w7, hw7⟩ : ∃ x : World, x = w6.alloc (.cells #[.int .i64 1, .int .i64 2, .int .i64 3, .int .i64 4, .int .i64 5, .int .i64 6, .int .i64 7, .int .i64 8] 3) := ⟨_, rfl⟩
  have s7 : w7.heap.size = w.heap.size + 1 + 1 + 1 + 1 + 1 + 1 + 1 := by rw [hw7, World.size_alloc, s6]
  obtain ⟨w8, hw8⟩ : ∃ x : World, x = w7.alloc (.cells #[.int .i64 1, .int .i64 2, .int .i64 3, .int .i64 4, .int .i64 5, .int .i64 6, .int .i64 7, .int .i64 8, .int .i64 9] 3) := ⟨_, rfl⟩
  have s8 : w8.heap.size = w.heap.size + 1 + 1 + 1 + 1 + 1 + 1 + 1 + 1 := by rw [hw8, World.size_alloc, s7]
  obtain ⟨w9, hw9⟩ : ∃ x : World, x = w8.alloc (.cells #[.int .i64 9, .int .i64 (-1)] 3) := ⟨_, rfl⟩
  have s9 : w9.heap.size = w.heap.size + 1 + 1 + 1 + 1 + 1 + 1 + 1 + 1 + 1 := by rw [hw9, World.size_alloc, s8]
  obtain ⟨w10, hw10⟩ : ∃ x : World, x = w9.alloc (.cells #[.slice none 0 0, .slice (some ⟨w.heap.size + 1, 0, none⟩) 1 1, .slice (some ⟨w.heap.size + 1 + 1, 0, none⟩) 5 5, .slice (some ⟨w.heap.size + 1 + 1 + 1, 0, none⟩) 1 1, .slice (some ⟨w.heap.size + 1 + 1 + 1 + 1, 0, none⟩) 1 1, .slice (some ⟨w.heap.size + 1 + 1 + 1 + 1 + 1, 0, none⟩) 3 3, .slice (some ⟨w.heap.size + 1 + 1 + 1 + 1 + 1 + 1, 0, none⟩) 8 8, .slice (some ⟨w.heap.size + 1 + 1 + 1 + 1 + 1 + 1 + 1, 0, none⟩) 9 9, .slice (some ⟨w.heap.size + 1 + 1 + 1 + 1 + 1 + 1 + 1 + 1, 0, none⟩) 2 2] 27) := ⟨_, rfl⟩
  have s10 : w10.heap.size = w.heap.size + 1 + 1 + 1 + 1 + 1 + 1 + 1 + 1 + 1 + 1 := by rw [hw10, World.size_alloc, s9]
  rw [← hw1]
  rw [← hw2]
  rw [← hw3]
  rw [← hw4]
  rw [← hw5]
  rw [← hw6]
  rw [← hw7]
  rw [← hw8]
  rw [← hw9]
  rw [← hw10]
  have b0 : Blk w1 (w.heap.size) 3 #[.int .i64 (-9223372036854775808), .int .i64 (-1), .int .i64 0, .int .i64 1, .int .i64 100, .int .i64 9007199254740991, .int .i64 9007199254740992, .int .i64 9223372036854775807] := by rw [hw1]; exact Blk.newAt rfl 3 _
  replace b0 : Blk w2 (w.heap.size) 3 #[.int .i64 (-9223372036854775808), .int .i64 (-1), .int .i64 0, .int .i64 1, .int .i64 100, .int .i64 9007199254740991, .int .i64 9007199254740992, .int .i64 9223372036854775807] := by rw [hw2]; exact b0.alloc _
  replace b0 : Blk w3 (w.heap.size) 3 #[.int .i64 (-9223372036854775808), .int .i64 (-1), .int .i64 0, .int .i64 1, .int .i64 100, .int .i64 9007199254740991, .int .i64 9007199254740992, .int .i64 9223372036854775807] := by rw [hw3]; exact b0.alloc _
  replace b0 : Blk w4 (w.heap.size) 3 #[.int .i64 (-9223372036854775808), .int .i64 (-1), .int .i64 0, .int .i64 1, .int .i64 100, .int .i64 9007199254740991, .int .i64 9007199254740992, .int .i64 9223372036854775807] := by rw [hw4]; exact b0.alloc _
  replace b0 : Blk w5 (w.heap.size) 3 #[.int .i64 (-9223372036854775808), .int .i64 (-1), .int .i64 0, .int .i64 1, .int .i64 100, .int .i64 9007199254740991, .int .i64 9007199254740992, .int .i64 9223372036854775807] := by rw [hw5]; exact b0.alloc _
  replace b0 : Blk w6 (w.heap.size) 3 #[.int .i64 (-9223372036854775808), .int .i64 (-1), .int .i64 0, .int .i64 1, .int .i64 100, .int .i64 9007199254740991, .int .i64 9007199254740992, .int .i64 9223372036854775807] := by rw [hw6]; exact b0.alloc _
  replace b0 : Blk w7 (w.heap.size) 3 #[.int .i64 (-9223372036854775808), .int .i64 (-1), .int .i64 0, .int .i64 1, .int .i64 100, .int .i64 9007199254740991, .int .i64 9007199254740992, .int .i64 9223372036854775807] := by rw [hw7]; exact b0.alloc _
  replace b0 : Blk w8 (w.heap.size) 3 #[.int .i64 (-9223372036854775808), .int .i64 (-1), .int .i64 0, .int .i64 1, .int .i64 100, .int .i64 9007199254740991, .int .i64 9007199254740992, .int .i64 9223372036854775807] := by rw [hw8]; exact b0.alloc _
  replace b0 : Blk w9 (w.heap.size) 3 #[.int .i64 (-9223372036854775808), .int .i64 (-1), .int .i64 0, .int .i64 1, .int .i64 100, .int .i64 9007199254740991, .int .i64 9007199254740992, .int .i64 9223372036854775807] := by rw [hw9]; exact b0.alloc _
  replace b0 : Blk w10 (w.heap.size) 3 #[.int .i64 (-9223372036854775808), .int .i64 (-1), .int .i64 0, .int .i64 1, .int .i64 100, .int .i64 9007199254740991, .int .i64 9007199254740992, .int .i64 9223372036854775807] := by rw [hw10]; exact b0.alloc _
  have b1 : Blk w2 (w.heap.size + 1) 3 #[.int .i64 1] := by rw [hw2]; exact Blk.newAt s1 3 _
  replace b1 : Blk w3 (w.heap.size + 1) 3 #[.int .i64 1] := by rw [hw3]; exact b1.alloc _
  replace b1 : Blk w4 (w.heap.size + 1) 3 #[.int .i64 1] := by rw [hw4]; exact b1.alloc _
  replace b1 : Blk w5 (w.heap.size + 1) 3 #[.int .i64 1] := by rw [hw5]; exact b1.alloc _
  replace b1 : Blk w6 (w.heap.size + 1) 3 #[.int .i64 1] := by rw [hw6]; exact b1.alloc _
  replace b1 : Blk w7 (w.heap.size + 1) 3 #[.int .i64 1] := by rw [hw7]; exact b1.alloc _
  replace b1 : Blk w8 (w.heap.size + 1) 3 #[.int .i64 1] := by rw [hw8]; exact b1.alloc _
  replace b1 : Blk w9 (w.heap.size + 1) 3 #[.int .i64 1] := by rw [hw9]; exact b1.alloc _
  replace b1 : Blk w10 (w.heap.size + 1) 3 #[.int .i64 1] := by rw [hw10]; exact b1.alloc _
  have b2 : Blk w3 (w.heap.size + 1 + 1) 3 #[.int .i64 16, .int .i64 8, .int .i64 4, .int .i64 2, .int .i64 1] := by rw [hw3]; exact Blk.newAt s2 3 _
  replace b2 : Blk w4 (w.heap.size + 1 + 1) 3 #[.int .i64 16, .int .i64 8, .int .i64 4, .int .i64 2, .int .i64 1] := by rw [hw4]; exact b2.alloc _
  replace b2 : Blk w5 (w.heap.size + 1 + 1) 3 #[.int .i64 16, .int .i64 8, .int .i64 4, .int .i64 2, .int .i64 1] := by rw [hw5]; exact b2.alloc _
  replace b2 : Blk w6 (w.heap.size + 1 + 1) 3 #[.int .i64 16, .int .i64 8, .int .i64 4, .int .i64 2, .int .i64 1] := by rw [hw6]; exact b2.alloc _
  replace b2 : Blk w7 (w.heap.size + 1 + 1) 3 #[.int .i64 16, .int .i64 8, .int .i64 4, .int .i64 2, .int .i64 1] := by rw [hw7]; exact b2.alloc _
  replace b2 : Blk w8 (w.heap.size + 1 + 1) 3 #[.int .i64 16, .int .i64 8, .int .i64 4, .int .i64 2, .int .i64 1] := by rw [hw8]; exact b2.alloc _
  replace b2 : Blk w9 (w.heap.size + 1 + 1) 3 #[.int .i64 16, .int .i64 8, .int .i64 4, .int .i64 2, .int .i64 1] := by rw [hw9]; exact b2.alloc _
  replace b2 : Blk w10 (w.heap.size + 1 + 1) 3 #[.int .i64 16, .int .i64 8, .int .i64 4, .int .i64 2, .int .i64 1] := by rw [hw10]; exact b2.alloc _
  have b3 : Blk w4 (w.heap.size + 1 + 1 + 1) 3 #[.int .i64 0] := by rw [hw4]; exact Blk.newAt s3 3 _
  replace b3 : Blk w5 (w.heap.size + 1 + 1 + 1) 3 #[.int .i64 0] := by rw [hw5]; exact b3.alloc _
  replace b3 : Blk w6 (w.heap.size + 1 + 1 + 1) 3 #[.int .i64 0] := by rw [hw6]; exact b3.alloc _
  replace b3 : Blk w7 (w.heap.size + 1 + 1 + 1) 3 #[.int .i64 0] := by rw [hw7]; exact b3.alloc _
  replace b3 : Blk w8 (w.heap.size + 1 + 1 + 1) 3 #[.int .i64 0] := by rw [hw8]; exact b3.alloc _
  replace b3 : Blk w9 (w.heap.size + 1 + 1 + 1) 3 #[.int .i64 0] := by rw [hw9]; exact b3.alloc _
  replace b3 : Blk w10 (w.heap.size + 1 + 1 + 1) 3 #[.int .i64 0] := by rw [hw10]; exact b3.alloc _
  have b4 : Blk w5 (w.heap.size + 1 + 1 + 1 + 1) 3 #[.int .i64 17] := by rw [hw5]; exact Blk.newAt s4 3 _
  replace b4 : Blk w6 (w.heap.size + 1 + 1 + 1 + 1) 3 #[.int .i64 17] := by rw [hw6]; exact b4.alloc _
  replace b4 : Blk w7 (w.heap.size + 1 + 1 + 1 + 1) 3 #[.int .i64 17] := by rw [hw7]; exact b4.alloc _
  replace b4 : Blk w8 (w.heap.size + 1 + 1 + 1 + 1) 3 #[.int .i64 17] := by rw [hw8]; exact b4.alloc _
  replace b4 : Blk w9 (w.heap.size + 1 + 1 + 1 + 1) 3 #[.int .i64 17] := by rw [hw9]; exact b4.alloc _
  replace b4 : Blk w10 (w.heap.size + 1 + 1 + 1 + 1) 3 #[.int .i64 17] := by rw [hw10]; exact b4.alloc _
  have b5 : Blk w6 (w.heap.size + 1 + 1 + 1 + 1 + 1) 3 #[.int .i64 1, .int .i64 2, .int .i64 1] := by rw [hw6]; exact Blk.newAt s5 3 _
  replace b5 : Blk w7 (w.heap.size + 1 + 1 + 1 + 1 + 1) 3 #[.int .i64 1, .int .i64 2, .int .i64 1] := by rw [hw7]; exact b5.alloc _
  replace b5 : Blk w8 (w.heap.size + 1 + 1 + 1 + 1 + 1) 3 #[.int .i64 1, .int .i64 2, .int .i64 1] := by rw [hw8]; exact b5.alloc _
  replace b5 : Blk w9 (w.heap.size + 1 + 1 + 1 + 1 + 1) 3 #[.int .i64 1, .int .i64 2, .int .i64 1] := by rw [hw9]; exact b5.alloc _
  replace b5 : Blk w10 (w.heap.size + 1 + 1 + 1 + 1 + 1) 3 #[.int .i64 1, .int .i64 2, .int .i64 1] := by rw [hw10]; exact b5.alloc _
  have b6 : Blk w7 (w.heap.size + 1 + 1 + 1 + 1 + 1 + 1) 3 #[.int .i64 1, .int .i64 2, .int .i64 3, .int .i64 4, .int .i64 5, .int .i64 6, .int .i64 7, .int .i64 8] := by rw [hw7]; exact Blk.newAt s6 3 _
  replace b6 : Blk w8 (w.heap.size + 1 + 1 + 1 + 1 + 1 + 1) 3 #[.int .i64 1, .int .i64 2, .int .i64 3, .int .i64 4, .int .i64 5, .int .i64 6, .int .i64 7, .int .i64 8] := by rw [hw8]; exact b6.alloc _
  replace b6 : Blk w9 (w.heap.size + 1 + 1 + 1 + 1 + 1 + 1) 3 #[.int .i64 1, .int .i64 2, .int .i64 3, .int .i64 4, .int .i64 5, .int .i64 6, .int .i64 7, .int .i64 8] := by rw [hw9]; exact b6.alloc _
  replace b6 : Blk w10 (w.heap.size + 1 + 1 + 1 + 1 + 1 + 1) 3 #[.int .i64 1, .int .i64 2, .int .i64 3, .int .i64 4, .int .i64 5, .int .i64 6, .int .i64 7, .int .i64 8] := by rw [hw10]; exact b6.alloc _
  have b7 : Blk w8 (w.heap.size + 1 + 1 + 1 + 1 + 1 + 1 + 1) 3 #[.int .i64 1, .int .i64 2, .int .i64 3, .int .i64 4, .int .i64 5, .int .i64 6, .int .i64 7, .int .i64 8, .int .i64 9] := by rw [hw8]; exact Blk.newAt s7 3 _
  replace b7 : Blk w9 (w.heap.size + 1 + 1 + 1 + 1 + 1 + 1 + 1) 3 #[.int .i64 1, .int .i64 2, .int .i64 3, .int .i64 4, .int .i64 5, .int .i64 6, .int .i64 7, .int .i64 8, .int .i64 9] := by rw [hw9]; exact b7.alloc _
  replace b7 : Blk w10 (w.heap.size + 1 + 1 + 1 + 1 + 1 + 1 + 1) 3 #[.int .i64 1, .int .i64 2, .int .i64 3, .int .i64 4, .int .i64 5, .int .i64 6, .int .i64 7, .int .i64 8, .int .i64 9] := by rw [hw10]; exact b7.alloc _
  have b8 : Blk w9 (w.heap.size + 1 + 1 + 1 + 1 + 1 + 1 + 1 + 1) 3 #[.int .i64 9, .int .i64 (-1)] := by rw [hw9]; exact Blk.newAt s8 3 _
  replace b8 : Blk w10 (w.heap.size + 1 + 1 + 1 + 1 + 1 + 1 + 1 + 1) 3 #[.int .i64 9, .int .i64 (-1)] := by rw [hw10]; exact b8.alloc _
  have b9 : Blk w10 (w.heap.size + 1 + 1 + 1 + 1 + 1 + 1 + 1 + 1 + 1) 27 #[.slice none 0 0, .slice (some ⟨w.heap.size + 1, 0, none⟩) 1 1, .slice (some ⟨w.heap.size + 1 + 1, 0, none⟩) 5 5, .slice (some ⟨w.heap.size + 1 + 1 + 1, 0, none⟩) 1 1, .slice (some ⟨w.heap.size + 1 + 1 + 1 + 1, 0, none⟩) 1 1, .slice (some ⟨w.heap.size + 1 + 1 + 1 + 1 + 1, 0, none⟩) 3 3, .slice (some ⟨w.heap.size + 1 + 1 + 1 + 1 + 1 + 1, 0, none⟩) 8 8, .slice (some ⟨w.heap.size + 1 + 1 + 1 + 1 + 1 + 1 + 1, 0, none⟩) 9 9, .slice (some ⟨w.heap.size + 1 + 1 + 1 + 1 + 1 + 1 + 1 + 1, 0, none⟩) 2 2] := by rw [hw10]; exact Blk.newAt s9 27 _
  refine ⟨b0.lt, b9.lt, fun k hk => ?_, fun k hk => ?_⟩
  · rw [b0.cell]
    match k, hk with
    | 0, _ => rfl
    | 1, _ => rfl
    | 2, _ => rfl
    | 3, _ => rfl
    | 4, _ => rfl
    | 5, _ => rfl
    | 6, _ => rfl
    | 7, _ => rfl
  · rw [b9.cell]
    match k, hk with
    | 0, _ => exact ⟨rfl, Row.nil _ _, by decide⟩
    | 1, _ => exact ⟨rfl, Row.of_blkI b1 rfl, by decide⟩
    | 2, _ => exact ⟨rfl, Row.of_blkI b2 rfl, by decide⟩
    | 3, _ => exact ⟨rfl, Row.of_blkI b3 rfl, by decide⟩
    | 4, _ => exact ⟨rfl, Row.of_blkI b4 rfl, by decide⟩
    | 5, _ => exact ⟨rfl, Row.of_blkI b5 rfl, by decide⟩
    | 6, _ => exact ⟨rfl, Row.of_blkI b6 rfl, by decide⟩
    | 7, _ => exact ⟨rfl, Row.of_blkI b7 rfl, by decide⟩
    | 8, _ => exact ⟨rfl, Row.of_blkI b8 rfl, by decide⟩

/-- A step of the law's lists: its path lies in them. -/
def KnD (w : World) (d : DoR) : Prop := RowB w w.heap.size d.pa (intsV d.pp) ∧ d.pp.length ≤ 9
theorem KnD.none_ (w : World) (k x n : Int) : KnD w ⟨k, x, n, none, [], 0⟩ := ⟨fun h => absurd h (Nat.lt_irrefl 0), Nat.zero_le _⟩
theorem KnAt.do_ {w : World} {n0 p0 : Nat} (h : KnAt w n0 p0) {j : Nat} (hj : j < 9) (k x n : Int) : KnD w ⟨k, x, n, knA n0 j, knP j, knC j⟩ :=
  ⟨(h.2.2.2 j hj).2.1.toB, (h.2.2.2 j hj).2.2⟩
theorem KnD.dos {w0 w : World} {base n : Nat} {v : Value} {l : List DoR} (hb : Below w0.heap.size w0 w) (h : w.ownsRow base 29 4 v n (dosV l)) (hn : l.length = n) (hl : ∀ d ∈ l, KnD w0 d) :
    ∃ A c, v = .slice A n c ∧ Dos w A n (fun i => l.getD i ⟨0, 0, 0, none, [], 0⟩) ∧ ∀ i, i < n → (l.getD i ⟨0, 0, 0, none, [], 0⟩).pp.length * 8 ≤ 140737488351232 :=
  Dos.of_own h hn fun d hd => ⟨((hl d hd).1.below hb).row hb.size, (hl d hd).2⟩
theorem known_all {P : DoR → Prop} {l m : List DoR} (h : ∀ d ∈ l, P d) (h' : ∀ d ∈ m, P d) : ∀ d ∈ l ++ m, P d := fun d hd => by
  rcases List.mem_append.1 hd with h1 | h1
  · exact h d h1
  · exact h' d h1

set_option maxRecDepth 100000 in
set_option maxHeartbeats 16000000 in
theorem known_any (W : World) : Calls Try.prog 7 #[] W fun e w' => e = .returned (.bool true) ∧ Below W.heap.size W w' := by
  obtain ⟨j0, hj0, hz0, hz1, hz2⟩ := info_parts Try.infoDo
  have J0 := Lib.hid hj0
  have J1 := Lib.hid hz0
  have J2 := Lib.hid hz1
  have J3 := Lib.hid hz2
  clear hj0 hz0 hz1 hz2
  go_enter Try.func7, Try.ntmps7
  go_wp2
  go_loopw [1, 2] (fun t q wr => ∃ (P : Option Addr) (i : Nat), i ≤ 2 ∧ t = .pointer P ∧ q = .int .i64 i ∧ NoneAt wr P ∧ Below W.heap.size W wr) (fun _ q _ => 2 - (intOf q).toNat)
  case atStart => exact ⟨none, 0, by omega, rfl, rfl, .inl rfl, Below.refl _ _⟩
  case round =>
    obtain ⟨P, i, hi, rfl, rfl, hN, hB⟩ := hrel
    have hz := hB.size
    by_cases hi2 : i < 2
    · have i0 : (i : Int) < 2 := by omega
      go_wp2_with (first | (go_at_call 11; (with_reducible refine (try_n0 _ P hN (-1)).mono ?_); rintro e w1 ⟨rfl, hb⟩; replace hN := hN.below hb; replace hB := hB.trans (hb.mono hB.size); clear hb) | (go_at_call 10; (with_reducible refine (limit_n _ P hN 0 0).mono ?_); rintro e w1 ⟨rfl, hb⟩; replace hN := hN.below hb; replace hB := hB.trans (hb.mono hB.size); clear hb) | (go_at_call 21; (with_reducible refine (up_n _ P hN 0 0).mono ?_); rintro e w1 ⟨rfl, hb⟩; replace hN := hN.below hb; replace hB := hB.trans (hb.mono hB.size); clear hb) | (go_at_call 22; (with_reducible refine (down_n _ P hN 0 0).mono ?_); rintro e w1 ⟨rfl, hb⟩; replace hN := hN.below hb; replace hB := hB.trans (hb.mono hB.size); clear hb) | (go_at_call 13; (with_reducible refine (back_n0 _ P hN 0).mono ?_); rintro e w1 ⟨rfl, hb⟩; replace hN := hN.below hb; replace hB := hB.trans (hb.mono hB.size); clear hb) | (go_at_call 14; (with_reducible refine (used_n _ P hN 1).mono ?_); rintro e w1 ⟨rfl, hb⟩; replace hN := hN.below hb; replace hB := hB.trans (hb.mono hB.size); clear hb) | (go_at_call 19; (with_reducible refine (most_n _ P hN 1).mono ?_); rintro e w1 ⟨rfl, hb⟩; replace hN := hN.below hb; replace hB := hB.trans (hb.mono hB.size); clear hb))
      go_roundw
      case rel => exact ⟨_, i + 1, by omega, rfl, by go_num, .inr ⟨_, _, rfl, Blk.new _ 45 _, rfl⟩, hB.alloc hB.size _⟩
      case measure => simp [intOf]; omega
    · clear hN
      go_wp2
      have HK := Lib.hid (known_laid wr)
      have hB0 : Below W.heap.size W ((((((((((wr.alloc (.cells #[.int .i64 (-9223372036854775808), .int .i64 (-1), .int .i64 0, .int .i64 1, .int .i64 100, .int .i64 9007199254740991, .int .i64 9007199254740992, .int .i64 9223372036854775807] 3)).alloc (.cells #[.int .i64 1] 3)).alloc (.cells #[.int .i64 16, .int .i64 8, .int .i64 4, .int .i64 2, .int .i64 1] 3)).alloc (.cells #[.int .i64 0] 3)).alloc (.cells #[.int .i64 17] 3)).alloc (.cells #[.int .i64 1, .int .i64 2, .int .i64 1] 3)).alloc (.cells #[.int .i64 1, .int .i64 2, .int .i64 3, .int .i64 4, .int .i64 5, .int .i64 6, .int .i64 7, .int .i64 8] 3)).alloc (.cells #[.int .i64 1, .int .i64 2, .int .i64 3, .int .i64 4, .int .i64 5, .int .i64 6, .int .i64 7, .int .i64 8, .int .i64 9] 3)).alloc (.cells #[.int .i64 9, .int .i64 (-1)] 3)).alloc (.cells #[.slice none 0 0, .slice (some ⟨wr.heap.size + 1, 0, none⟩) 1 1, .slice (some ⟨wr.heap.size + 1 + 1, 0, none⟩) 5 5, .slice (some ⟨wr.heap.size + 1 + 1 + 1, 0, none⟩) 1 1, .slice (some ⟨wr.heap.size + 1 + 1 + 1 + 1, 0, none⟩) 1 1, .slice (some ⟨wr.heap.size + 1 + 1 + 1 + 1 + 1, 0, none⟩) 3 3, .slice (some ⟨wr.heap.size + 1 + 1 + 1 + 1 + 1 + 1, 0, none⟩) 8 8, .slice (some ⟨wr.heap.size + 1 + 1 + 1 + 1 + 1 + 1 + 1, 0, none⟩) 9 9, .slice (some ⟨wr.heap.size + 1 + 1 + 1 + 1 + 1 + 1 + 1 + 1, 0, none⟩) 2 2] 27)) := by (repeat' (first | (with_reducible exact Below.refl _ _) | (with_reducible assumption) | (with_reducible refine Below.alloc ?_ ?_ _) | (with_reducible refine below_drewN ?_ _) | (with_reducible refine Below.drew ?_) | (with_reducible refine Below.setCell ?_ ?_ _) | (with_reducible refine below_two ?_ (by with_reducible assumption)) | go_size))
      have hpz : wr.heap.size + 1 + 1 + 1 + 1 + 1 + 1 + 1 + 1 + 1 = wr.heap.size + 1 + 1 + 1 + 1 + 1 + 1 + 1 + 1 + 1 := rfl
      obtain ⟨w0, hw0⟩ : ∃ x : World, x = ((((((((((wr.alloc (.cells #[.int .i64 (-9223372036854775808), .int .i64 (-1), .int .i64 0, .int .i64 1, .int .i64 100, .int .i64 9007199254740991, .int .i64 9007199254740992, .int .i64 9223372036854775807] 3)).alloc (.cells #[.int .i64 1] 3)).alloc (.cells #[.int .i64 16, .int .i64 8, .int .i64 4, .int .i64 2, .int .i64 1] 3)).alloc (.cells #[.int .i64 0] 3)).alloc (.cells #[.int .i64 17] 3)).alloc (.cells #[.int .i64 1, .int .i64 2, .int .i64 1] 3)).alloc (.cells #[.int .i64 1, .int .i64 2, .int .i64 3, .int .i64 4, .int .i64 5, .int .i64 6, .int .i64 7, .int .i64 8] 3)).alloc (.cells #[.int .i64 1, .int .i64 2, .int .i64 3, .int .i64 4, .int .i64 5, .int .i64 6, .int .i64 7, .int .i64 8, .int .i64 9] 3)).alloc (.cells #[.int .i64 9, .int .i64 (-1)] 3)).alloc (.cells #[.slice none 0 0, .slice (some ⟨wr.heap.size + 1, 0, none⟩) 1 1, .slice (some ⟨wr.heap.size + 1 + 1, 0, none⟩) 5 5, .slice (some ⟨wr.heap.size + 1 + 1 + 1, 0, none⟩) 1 1, .slice (some ⟨wr.heap.size + 1 + 1 + 1 + 1, 0, none⟩) 1 1, .slice (some ⟨wr.heap.size + 1 + 1 + 1 + 1 + 1, 0, none⟩) 3 3, .slice (some ⟨wr.heap.size + 1 + 1 + 1 + 1 + 1 + 1, 0, none⟩) 8 8, .slice (some ⟨wr.heap.size + 1 + 1 + 1 + 1 + 1 + 1 + 1, 0, none⟩) 9 9, .slice (some ⟨wr.heap.size + 1 + 1 + 1 + 1 + 1 + 1 + 1 + 1, 0, none⟩) 2 2] 27)) := ⟨_, rfl⟩
      rw [← hw0] at HK hB0 ⊢
      clear hw0 hpz
      obtain ⟨p0, hp0⟩ : ∃ p0, wr.heap.size + 1 + 1 + 1 + 1 + 1 + 1 + 1 + 1 + 1 = p0 := ⟨_, rfl⟩
      rw [hp0] at HK ⊢
      clear hp0
      obtain ⟨n0, hn0⟩ : ∃ n0, wr.heap.size = n0 := ⟨_, rfl⟩
      rw [hn0] at HK ⊢
      clear hn0 hz
      obtain ⟨Bz, hBz⟩ : ∃ x, w0.heap.size = x := ⟨_, rfl⟩
      have hn0 : n0 < Bz := by rw [← hBz]; exact HK.out.1
      have hp0 : p0 < Bz := by rw [← hBz]; exact HK.out.2.1
      have hzB : W.heap.size ≤ Bz := by rw [← hBz]; exact hB0.size
      have HBz := Lib.hid hBz
      have hR0 : Below Bz w0 w0 := Below.refl _ _
      clear hBz
      go_loopw [7, 8, 9] (fun v q _ w2 => ∃ (i : Nat) (ds : List DoR), i ≤ 8 ∧ q = .int .i64 i ∧ w2.ownsRow Bz 29 4 v (i * 10) (dosV ds) ∧ Hid (ds.length = i * 10) ∧ Hid (∀ d ∈ ds, KnD w0 d) ∧ Below Bz w0 w2) (fun _ q _ _ => 8 - (intOf q).toNat)
      case atStart => exact ⟨0, [], by omega, rfl, World.ownsRow_nil _ _ _ _, Lib.hid rfl, Lib.hid (fun d hd => by cases hd), hR0⟩
      case round =>
        clear hR0
        obtain ⟨i, ds, hi8, rfl, ho, HL, HD, hR⟩ := hrel
        have hzr : Bz ≤ wr.heap.size := by have := hR.size; rw [HBz.out] at this; exact this
        by_cases hi : i < 8
        · have i0 : (0 : Int) ≤ (i : Int) := by omega
          have i1 : (i : Int) < 8 := by omega
          obtain ⟨x, hx⟩ : ∃ x, knN i = x := ⟨_, rfl⟩
          have kN : Hid (w0.cell? ⟨n0, i, none⟩ = some (.int .i64 x)) := Lib.hid (by rw [HK.out.2.2.1 i hi, hx])
          clear hx
          go_wp2
          go_loopw [7, 9] (fun v q w2 => ∃ (j : Nat) (ds : List DoR), j ≤ 9 ∧ q = .int .i64 j ∧ w2.ownsRow Bz 29 4 v (i * 10 + j) (dosV ds) ∧ Hid (ds.length = i * 10 + j) ∧ Hid (∀ d ∈ ds, KnD w0 d) ∧ Below Bz w0 w2) (fun _ q _ => 9 - (intOf q).toNat)
          case atStart => exact ⟨0, ds, by omega, rfl, ho, HL, HD, hR⟩
          case round =>
            clear ho HL HD hR hzr
            obtain ⟨j, ds, hj9, rfl, ho, HL, HD, hR⟩ := hrel
            have hzr : Bz ≤ wr.heap.size := by have := hR.size; rw [HBz.out] at this; exact this
            have cN := (hR.cell (p := ⟨n0, i, none⟩) hn0).trans kN.out
            by_cases hj : j < 9
            · have j1 : (0 : Int) ≤ (j : Int) := by omega
              have j2 : (j : Int) < 9 := by omega
              obtain ⟨k1, -, -⟩ := HK.out.2.2.2 j hj
              have HDo := Lib.hid (HK.out.do_ hj 3 0 x)
              obtain ⟨pa, hpa⟩ : ∃ y, knA n0 j = y := ⟨_, rfl⟩
              obtain ⟨pl, hpl⟩ : ∃ y, knP j = y := ⟨_, rfl⟩
              obtain ⟨pc, hpc⟩ : ∃ y, knC j = y := ⟨_, rfl⟩
              rw [hpa, hpl, hpc] at k1 HDo
              have cP := (hR.cell (p := ⟨p0, j, none⟩) hp0).trans k1
              have kP := Lib.hid k1
              clear k1 hpa hpl hpc
              have HO := Lib.hid (ho.alloc (.cells #[.int .i64 3, .int .i64 0, .int .i64 x, .slice pa pl.length pc] 29)).drew
              have HRd := Lib.hid (dos_reads (l := [⟨3, 0, x, pa, pl, pc⟩]) (Blk.new wr 29 #[.int .i64 3, .int .i64 0, .int .i64 x, .slice pa pl.length pc]) (n := 1) rfl rfl).drew
              have d1 := cell_drew cN
              have d2 := cell_drew cP
              go_wp2
              go_region_held3 (fun w' => w'.cell? ⟨n0, i, none⟩ = some (.int .i64 x) ∧ w'.cell? ⟨p0, j, none⟩ = some (.slice pa pl.length pc)) (first | exact ⟨by assumption, by assumption⟩ | exact ⟨cell_alloc (by assumption), cell_alloc (by assumption)⟩) (first | (refine step_append_any _ rfl _ _ 22 rfl Bz 29 j0 (.agg #[.int .i64 0, .int .i64 0, .int .i64 0, .slice none 0 0]) 4 48 Try.underlying22 J0.out J1.out J2.out J3.out rfl (by decide) _ (i * 10 + j) (dosV ds) rfl HO.out _ (some ⟨wr.heap.size, 0, none⟩) 1 1 (dosV [⟨3, 0, x, pa, pl, pc⟩]) rfl HRd.out dosV_one (by unfold maxLen; omega) (by omega) (by go_size) ?_; intro v1 w3 ho3 hg3 hq3; clear hq3; rw [← dosV_append] at ho3; have hR3 : Below Bz w0 w3 := below_grown' (Below.drew (hR.alloc hzr _)) hg3 HO.out (by go_size) (Nat.le_refl _); have y1 := (hR3.cell (p := ⟨n0, i, none⟩) hn0).trans kN.out; have y2 := (hR3.cell (p := ⟨p0, j, none⟩) hp0).trans kP.out))
              clear hg3 HO HRd d1 d2
              go_wp2
              go_roundw
              case rel => exact ⟨j + 1, ds ++ [⟨3, 0, x, pa, pl, pc⟩], by omega, by go_num, ho3, Lib.hid (by rw [List.length_append, HL.out]; rfl), Lib.hid (known_all HD.out fun d hd => by rw [List.mem_singleton.1 hd]; exact HDo.out), hR3⟩
              case measure => simp [intOf]; omega
            · obtain rfl : j = 9 := by omega
              have HO := Lib.hid (ho.alloc (.cells #[.int .i64 1, .int .i64 1, .int .i64 x, .slice none 0 0] 29))
              go_wp2_with (first | (at_builtin; refine wpList_append_any _ rfl _ _ 22 rfl Bz 29 j0 (.agg #[.int .i64 0, .int .i64 0, .int .i64 0, .slice none 0 0]) 4 48 Try.underlying22 J0.out J1.out J2.out J3.out rfl (by decide) _ (i * 10 + 9) (dosV ds) rfl HO.out _ (some ⟨wr.heap.size, 0, none⟩) 1 1 (dosV [⟨1, 1, x, none, [], 0⟩]) rfl (dos_reads (Blk.new wr 29 _) rfl rfl) dosV_one (by unfold maxLen; omega) (by omega) (by go_size) ?_; intro v1 w3 ho3 hg3 hq3; clear hq3; rw [← dosV_append] at ho3))
              have hR3 : Below Bz w0 w3 := below_grown' (hR.alloc hzr _) hg3 HO.out (by go_size) (Nat.le_refl _)
              clear hg3 HO
              go_wp2
              go_roundw
              case rel => exact ⟨i + 1, ds ++ [⟨1, 1, x, none, [], 0⟩], by omega, by go_num, by rw [show (i + 1) * 10 = i * 10 + 9 + 1 by omega]; exact ho3, Lib.hid (by rw [List.length_append, HL.out]; show i * 10 + 9 + 1 = _; omega), Lib.hid (known_all HD.out fun d hd => by rw [List.mem_singleton.1 hd]; exact KnD.none_ _ _ _ _), hR3⟩
              case measure => simp [intOf]; omega
        · have hi88 : i = 8 := by omega
          have ho80 := ho
          have HL80 := HL.out
          rw [hi88] at ho80 HL80
          have ho81 : wr.ownsRow Bz 29 4 _ 80 (dosV ds) := ho80
          obtain ⟨Al, cl, rfl, hDl, hSl⟩ := KnD.dos (by rw [HBz.out]; exact hR) ho81 HL80 HD.out
          clear ho80 ho81 HL80 hi88 hi8
          obtain ⟨Dl, hDl2⟩ : ∃ D : Nat → DoR, (fun i => ds.getD i ⟨0, 0, 0, none, [], 0⟩) = D := ⟨_, rfl⟩
          have hSl2 : ∀ i, i < 80 → (Dl i).pp.length * 8 ≤ 140737488351232 := fun i hi => by rw [← hDl2]; exact hSl i hi
          rw [hDl2] at hDl
          have HSl := Lib.hid hSl2
          have HDl := Lib.hid hDl
          have hBr : Below W.heap.size W wr := hB0.trans (hR.mono hzB)
          have hzw := hBr.size
          clear hSl hSl2 hDl2 hDl ho HL HD
          obtain ⟨wx, hwx⟩ : ∃ x : World, x = wr := ⟨_, rfl⟩
          subst hwx
          have hRx : Below wx.heap.size wx wx := Below.refl _ _
          go_wp2
          go_loopw [10, 11] (fun v q w2 => ∃ (i : Nat) (ds : List DoR), i ≤ 8 ∧ q = .int .i64 i ∧ w2.ownsRow wx.heap.size 29 4 v (i * 10) (dosV ds) ∧ Hid (ds.length = i * 10) ∧ Hid (∀ d ∈ ds, KnD w0 d) ∧ Below wx.heap.size wx w2) (fun _ q _ => 8 - (intOf q).toNat)
          case atStart => exact ⟨0, [], by omega, rfl, World.ownsRow_nil _ _ _ _, Lib.hid rfl, Lib.hid (fun d hd => by cases hd), hRx⟩
          case round =>
            clear hRx
            obtain ⟨i, ds, hi8, rfl, ho, HL, HD, hRx⟩ := hrel
            have hzx := hRx.size
            by_cases hi : i < 8
            · have i0 : (0 : Int) ≤ (i : Int) := by omega
              have i1 : (i : Int) < 8 := by omega
              have i2 : (i : Int) < 9 := by omega
              have hR2 : Below Bz w0 wr := hR.trans (hRx.mono hzr)
              have hzr2 : Bz ≤ wr.heap.size := by omega
              obtain ⟨x, hx⟩ : ∃ x, knN i = x := ⟨_, rfl⟩
              have cN : wr.cell? ⟨n0, i, none⟩ = some (.int .i64 x) := (hR2.cell (p := ⟨n0, i, none⟩) hn0).trans (by rw [HK.out.2.2.1 i hi, hx])
              obtain ⟨k1, -, -⟩ := HK.out.2.2.2 i (by omega)
              obtain ⟨k2, -, -⟩ := HK.out.2.2.2 2 (by omega)
              have HD1 := Lib.hid (HK.out.do_ (j := i) (by omega) 4 0 x)
              have HD2 := Lib.hid (HK.out.do_ (j := 2) (by omega) 4 0 50)
              have HD3 := Lib.hid (HK.out.do_ (j := 2) (by omega) 3 0 50)
              obtain ⟨pi, hpi⟩ : ∃ y, knA n0 i = y := ⟨_, rfl⟩
              obtain ⟨li, hli⟩ : ∃ y, knP i = y := ⟨_, rfl⟩
              obtain ⟨ci, hci⟩ : ∃ y, knC i = y := ⟨_, rfl⟩
              obtain ⟨p2, hp2⟩ : ∃ y, knA n0 2 = y := ⟨_, rfl⟩
              obtain ⟨l2, hl2⟩ : ∃ y, knP 2 = y := ⟨_, rfl⟩
              obtain ⟨c2, hc2⟩ : ∃ y, knC 2 = y := ⟨_, rfl⟩
              rw [hpi, hli, hci] at k1 HD1
              rw [hp2, hl2, hc2] at k2 HD2 HD3
              have cP := (hR2.cell (p := ⟨p0, i, none⟩) hp0).trans k1
              have cP2 := (hR2.cell (p := ⟨p0, 2, none⟩) hp0).trans k2
              have kP := Lib.hid k1
              have kP2 := Lib.hid k2
              have kN : Hid (w0.cell? ⟨n0, i, none⟩ = some (.int .i64 x)) := Lib.hid (by rw [HK.out.2.2.1 i hi, hx])
              clear hx k1 k2 hpi hli hci hp2 hl2 hc2
              have HO := Lib.hid (ho.alloc (.cells #[.int .i64 0, .int .i64 2, .int .i64 x, .slice none 0 0, .int .i64 1, .int .i64 2, .int .i64 100, .slice none 0 0, .int .i64 1, .int .i64 2, .int .i64 x, .slice none 0 0, .int .i64 2, .int .i64 2, .int .i64 x, .slice none 0 0, .int .i64 4, .int .i64 0, .int .i64 50, .slice p2 l2.length c2, .int .i64 3, .int .i64 0, .int .i64 50, .slice p2 l2.length c2, .int .i64 4, .int .i64 0, .int .i64 x, .slice pi li.length ci, .int .i64 0, .int .i64 17, .int .i64 0, .slice none 0 0, .int .i64 1, .int .i64 0, .int .i64 0, .slice none 0 0, .int .i64 2, .int .i64 (-1), .int .i64 0, .slice none 0 0] 29)).drew
              have HRd := Lib.hid (dos_reads (l := [⟨0, 2, x, none, [], 0⟩, ⟨1, 2, 100, none, [], 0⟩, ⟨1, 2, x, none, [], 0⟩, ⟨2, 2, x, none, [], 0⟩, ⟨4, 0, 50, p2, l2, c2⟩, ⟨3, 0, 50, p2, l2, c2⟩, ⟨4, 0, x, pi, li, ci⟩, ⟨0, 17, 0, none, [], 0⟩, ⟨1, 0, 0, none, [], 0⟩, ⟨2, -1, 0, none, [], 0⟩]) (Blk.new wr 29 #[.int .i64 0, .int .i64 2, .int .i64 x, .slice none 0 0, .int .i64 1, .int .i64 2, .int .i64 100, .slice none 0 0, .int .i64 1, .int .i64 2, .int .i64 x, .slice none 0 0, .int .i64 2, .int .i64 2, .int .i64 x, .slice none 0 0, .int .i64 4, .int .i64 0, .int .i64 50, .slice p2 l2.length c2, .int .i64 3, .int .i64 0, .int .i64 50, .slice p2 l2.length c2, .int .i64 4, .int .i64 0, .int .i64 x, .slice pi li.length ci, .int .i64 0, .int .i64 17, .int .i64 0, .slice none 0 0, .int .i64 1, .int .i64 0, .int .i64 0, .slice none 0 0, .int .i64 2, .int .i64 (-1), .int .i64 0, .slice none 0 0]) (n := 10) rfl rfl).drew
              have d1 := cell_drew cN
              have d2 := cell_drew cP
              have d3 := cell_drew cP2
              go_wp2
              go_region_held3 (fun w' => w'.cell? ⟨n0, i, none⟩ = some (.int .i64 x) ∧ w'.cell? ⟨p0, i, none⟩ = some (.slice pi li.length ci) ∧ w'.cell? ⟨p0, 2, none⟩ = some (.slice p2 l2.length c2)) (first | exact ⟨by assumption, by assumption, by assumption⟩ | exact ⟨cell_alloc (by assumption), cell_alloc (by assumption), cell_alloc (by assumption)⟩) (first | (refine step_append_any _ rfl _ _ 22 rfl wx.heap.size 29 j0 (.agg #[.int .i64 0, .int .i64 0, .int .i64 0, .slice none 0 0]) 4 48 Try.underlying22 J0.out J1.out J2.out J3.out rfl (by decide) _ (i * 10) (dosV ds) rfl HO.out _ (some ⟨wr.heap.size, 0, none⟩) 10 10 (dosV [⟨0, 2, x, none, [], 0⟩, ⟨1, 2, 100, none, [], 0⟩, ⟨1, 2, x, none, [], 0⟩, ⟨2, 2, x, none, [], 0⟩, ⟨4, 0, 50, p2, l2, c2⟩, ⟨3, 0, 50, p2, l2, c2⟩, ⟨4, 0, x, pi, li, ci⟩, ⟨0, 17, 0, none, [], 0⟩, ⟨1, 0, 0, none, [], 0⟩, ⟨2, -1, 0, none, [], 0⟩]) rfl HRd.out dosV_one (by unfold maxLen; omega) (by omega) (by go_size) ?_; intro v1 w3 ho3 hg3 hq3; clear hq3; rw [← dosV_append] at ho3; have hR3 : Below wx.heap.size wx w3 := below_grown' (Below.drew (hRx.alloc hzx _)) hg3 HO.out (by go_size) (Nat.le_refl _); have hR4 : Below Bz w0 w3 := hR.trans (hR3.mono hzr); have y1 := (hR4.cell (p := ⟨n0, i, none⟩) hn0).trans kN.out; have y2 := (hR4.cell (p := ⟨p0, i, none⟩) hp0).trans kP.out; have y3 := (hR4.cell (p := ⟨p0, 2, none⟩) hp0).trans kP2.out; clear hR4))
              clear hg3 HO HRd d1 d2 d3 hR2
              go_wp2
              go_roundw
              case rel => exact ⟨i + 1, ds ++ ([⟨0, 2, x, none, [], 0⟩, ⟨1, 2, 100, none, [], 0⟩, ⟨1, 2, x, none, [], 0⟩, ⟨2, 2, x, none, [], 0⟩, ⟨4, 0, 50, p2, l2, c2⟩, ⟨3, 0, 50, p2, l2, c2⟩, ⟨4, 0, x, pi, li, ci⟩, ⟨0, 17, 0, none, [], 0⟩, ⟨1, 0, 0, none, [], 0⟩, ⟨2, -1, 0, none, [], 0⟩] : List DoR), by omega, by go_num, by rw [show (i + 1) * 10 = i * 10 + 10 by omega]; exact ho3, Lib.hid (by rw [List.length_append, HL.out]; show i * 10 + 10 = _; omega), Lib.hid (known_all HD.out fun d hd => by
                  simp only [List.mem_cons, List.not_mem_nil, or_false] at hd
                  rcases hd with rfl | rfl | rfl | rfl | rfl | rfl | rfl | rfl | rfl | rfl
                  · exact KnD.none_ _ _ _ _
                  · exact KnD.none_ _ _ _ _
                  · exact KnD.none_ _ _ _ _
                  · exact KnD.none_ _ _ _ _
                  · exact HD2.out
                  · exact HD3.out
                  · exact HD1.out
                  · exact KnD.none_ _ _ _ _
                  · exact KnD.none_ _ _ _ _
                  · exact KnD.none_ _ _ _ _), hR3⟩
              case measure => simp [intOf]; omega
            · obtain rfl : i = 8 := by omega
              have hR2 : Below Bz w0 wr := hR.trans (hRx.mono hzr)
              have ho80 : wr.ownsRow wx.heap.size 29 4 _ 80 (dosV ds) := ho
              obtain ⟨Am, cm, rfl, hDm, hSm⟩ := KnD.dos (by rw [HBz.out]; exact hR2) ho80 HL.out HD.out
              clear ho80
              obtain ⟨Dm, hDm2⟩ : ∃ D : Nat → DoR, (fun i => ds.getD i ⟨0, 0, 0, none, [], 0⟩) = D := ⟨_, rfl⟩
              have hSm2 : ∀ i, i < 80 → (Dm i).pp.length * 8 ≤ 140737488351232 := fun i hi => by rw [← hDm2]; exact hSm i hi
              rw [hDm2] at hDm
              have HSm := Lib.hid hSm2
              have hL := HDl.out.below hRx
              have hBe := hBr.trans (hRx.mono hzw)
              clear hSm hSm2 hDm2 ho HL HD hR2
              go_wp2_with (first | (go_at_call 15; (with_reducible refine (works_any _).mono ?_); rintro e w6 ⟨rfl, hb6⟩; replace hL := hL.below hb6; replace hDm := hDm.below hb6; replace hBe := hBe.trans (hb6.mono hBe.size); clear hb6) | (go_at_call 4; (with_reducible refine (plays_any 80 Al cl Dl _ hL HSl).mono ?_); rintro e w6 ⟨rfl, hb6⟩; replace hL := hL.below hb6; replace hDm := hDm.below hb6; replace hBe := hBe.trans (hb6.mono hBe.size); clear hb6) | (go_at_call 4; (with_reducible refine (plays_any 80 Am cm Dm _ hDm HSm).mono ?_); rintro e w6 ⟨rfl, hb6⟩; replace hL := hL.below hb6; replace hDm := hDm.below hb6; replace hBe := hBe.trans (hb6.mono hBe.size); clear hb6) | (go_at_call 5; (with_reducible refine (bounds_any 80 Al cl Dl _ hL).mono ?_); rintro e w6 ⟨rfl, hb6⟩; replace hL := hL.below hb6; replace hDm := hDm.below hb6; replace hBe := hBe.trans (hb6.mono hBe.size); clear hb6) | (go_at_call 5; (with_reducible refine (bounds_any 80 Am cm Dm _ hDm).mono ?_); rintro e w6 ⟨rfl, hb6⟩; replace hL := hL.below hb6; replace hDm := hDm.below hb6; replace hBe := hBe.trans (hb6.mono hBe.size); clear hb6))
              go_ret
              exact ⟨rfl, hBe⟩

end Go.Proofs.Ytnbeofbkfopehaa
