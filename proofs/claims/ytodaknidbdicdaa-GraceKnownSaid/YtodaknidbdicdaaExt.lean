/-
  A region that draws its order, whose operations only read what was there when it began and whose callees leave that alone (they may make memory of their own): one walk, in the order of the text.
-/
import Derived.Deep.Quiet
import Derived.Deep.QuietTactic
import Derived.BigQuiet
import Derived.Test.YtodaknidbdicdaaWorlds
namespace Go.Proofs.Ytodaknidbdicdaa
open Go.RowKit

/-- A world that comes of W by new memory, draws, and nothing else. -/
structure Ext (W : World) where
  w : World
  below : Below W.heap.size W w

theorem Ext.there (W : World) : Nonempty (Ext W) := ⟨⟨W, Below.refl _ _⟩⟩
theorem Ext.cell {W : World} (s : Ext W) (b o : Nat) (h : b < W.heap.size) : s.w.cell? ⟨b, o, none⟩ = W.cell? ⟨b, o, none⟩ := s.below.cell (p := ⟨b, o, none⟩) h
theorem Ext.frozen {W : World} (s : Ext W) (b o : Nat) (h : b < W.heap.size) : s.w.frozen? ⟨b, o, none⟩ = W.frozen? ⟨b, o, none⟩ := s.below.frozen (p := ⟨b, o, none⟩) h
theorem Ext.heap {W : World} (s : Ext W) (b : Nat) (h : b < W.heap.size) : s.w.heap[b]? = W.heap[b]? := s.below.block b h

/-- The region, and what is known of every world that it may meet: what lies below B is as it was. -/
theorem wp_region_ext {P : Program} {id : Nat} {Q : Exit → Act → World → Prop} {a : Act} {w : World} {l : List Oper} (B : Nat) (hm : P.follows .mixedOrders = true) (hB : Region.lexB .any l.toArray = true) (hle : B ≤ w.heap.size)
    (h : (∀ (s : Ext w) (b o : Nat), b < B → s.w.cell? ⟨b, o, none⟩ = w.cell? ⟨b, o, none⟩) → (∀ (s : Ext w) (b o : Nat), b < B → s.w.frozen? ⟨b, o, none⟩ = w.frozen? ⟨b, o, none⟩) →
      (∀ (s : Ext w) (b : Nat), b < B → s.w.heap[b]? = w.heap[b]?) → Nonempty (Ext w) →
      wpQuiet P l.toArray (fun w' => ∃ s : Ext w, w' = s.w) (fun a' => ∀ w', (∃ s : Ext w, w' = s.w) → Q .normal a' w') l a) : (Code.region id l.toArray true).wp P Q a w :=
  wp_region_quiet (C := fun w' => ∃ s : Ext w, w' = s.w) hm hB ⟨⟨w.drew, (Below.refl _ _).drew⟩, rfl⟩
    (by simpa using h (fun s b o hl => s.cell b o (Nat.lt_of_lt_of_le hl hle)) (fun s b o hl => s.frozen b o (Nat.lt_of_lt_of_le hl hle)) (fun s b hl => s.heap b (Nat.lt_of_lt_of_le hl hle)) (Ext.there w))

/-- A callee that hands back v and leaves alone what was there. -/
theorem ext_call {P : Program} {f : FuncId} {args : Array Value} {W : World} {s : Ext W} {v : Value}
    (h : Calls P f args s.w fun e w' => e = .returned v ∧ Below s.w.heap.size s.w w') : Calls P f args s.w fun e w'' => e = .returned v ∧ ∃ s' : Ext W, w'' = s'.w :=
  h.mono fun _ w' ⟨he, hb⟩ => ⟨he, ⟨w', s.below.trans (hb.mono s.below.size)⟩, rfl⟩

theorem ext_below {W w1 : World} (h : ∃ s : Ext W, w1 = s.w) : Below W.heap.size W w1 := by
  obtain ⟨s, rfl⟩ := h
  exact s.below

/-- What is known of the world behind the region. -/
theorem ext_known {W w1 : World} (h : ∃ s : Ext W, w1 = s.w) (B : Nat) (hle : B ≤ W.heap.size) :
    Below W.heap.size W w1 ∧ B ≤ w1.heap.size ∧ (∀ b o, b < B → w1.cell? ⟨b, o, none⟩ = W.cell? ⟨b, o, none⟩) ∧ (∀ b o, b < B → w1.frozen? ⟨b, o, none⟩ = W.frozen? ⟨b, o, none⟩) :=
  ⟨ext_below h, bcellB (ext_below h) B hle⟩

end Go.Proofs.Ytodaknidbdicdaa
