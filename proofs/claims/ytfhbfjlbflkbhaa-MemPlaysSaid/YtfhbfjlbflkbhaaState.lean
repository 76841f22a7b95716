/-
  A memory as it lies: a block of two cells (the words' slice, the count) and the words' block.
-/
import Derived.Test.YtfhbfjlbflkbhaaStore
import Derived.Test.YtfhbfjlbflkbhaaRow
namespace Go.Proofs.Ytfhbfjlbflkbhaa
open Go.RowKit

abbrev wordV (l : List Nat) : List Value := l.map fun (n : Nat) => Value.int .u64 (n : Int)
/-- T: the struct's type. -/
structure MemAt (T : TypeId) (w : World) (b g : Nat) (ws : List Nat) (cnt : Nat) : Prop where
  head : Blk w b T #[.slice (some ⟨g, 0, none⟩) ws.length ws.length, .int .i64 (cnt : Int)]
  row : Blk w g 29 (wordV ws).toArray
  ne : b ≠ g

/-- w' is w, but for blocks b and g, new blocks, and draws. -/
structure Two (b g : Nat) (w w' : World) : Prop where
  os : w'.os = w.os
  tape : w'.tape = w.tape
  output : w'.output = w.output
  size : w.heap.size ≤ w'.heap.size
  block : ∀ k, k < w.heap.size → k ≠ b → k ≠ g → w'.heap[k]? = w.heap[k]?

section
variable {T : TypeId} {w w' : World} {b g : Nat} {ws : List Nat} {cnt : Nat}
theorem word_at {ws : List Nat} {i : Nat} (h : i < ws.length) : (wordV ws)[i]? = some (.int .u64 (ws[i] : Nat)) := by simp [h]
theorem MemAt.cell (h : MemAt T w b g ws cnt) {i x : Nat} (hx : ws[i]? = some x) : w.cell? ⟨g, i, none⟩ = some (.int .u64 (x : Int)) := by
  rw [h.row.cell, List.getElem?_toArray, List.getElem?_map, hx]
  rfl
theorem MemAt.alloc (h : MemAt T w b g ws cnt) (o : Obj) : MemAt T (w.alloc o) b g ws cnt := ⟨h.head.alloc o, h.row.alloc o, h.ne⟩
theorem MemAt.drewN (h : MemAt T w b g ws cnt) (n : Nat) : MemAt T (w.drewN n) b g ws cnt := ⟨h.head, h.row, h.ne⟩
theorem MemAt.drew (h : MemAt T w b g ws cnt) : MemAt T w.drew b g ws cnt := ⟨h.head, h.row, h.ne⟩
theorem MemAt.below (h : MemAt T w b g ws cnt) (hb : Below w.heap.size w w') : MemAt T w' b g ws cnt := ⟨h.head.below hb, h.row.below hb, h.ne⟩
theorem MemAt.far (h : MemAt T w b g ws cnt) {p : Addr} (h1 : b ≠ p.block) (h2 : g ≠ p.block) (u : Value) : MemAt T (w.setCell p u) b g ws cnt := ⟨h.head.far h1 u, h.row.far h2 u, h.ne⟩
theorem MemAt.more (h : MemAt T w b g ws cnt) (n : Nat) : MemAt T (w.setCell ⟨b, 1, none⟩ (.int .i64 (n : Int))) b g ws n := ⟨h.head.set_ 1 _, h.row.far (fun e => h.ne e.symm) _, h.ne⟩
theorem MemAt.put (h : MemAt T w b g ws cnt) (i x : Nat) : MemAt T (w.setCell ⟨g, i, none⟩ (.int .u64 (x : Int))) b g (ws.set i x) cnt := by
  refine ⟨?_, ?_, h.ne⟩
  · rw [List.length_set]
    exact h.head.far h.ne _
  · have := h.row.set_ i (.int .u64 (x : Int))
    rwa [show (wordV ws).toArray.setIfInBounds i (.int .u64 (x : Int)) = (wordV (ws.set i x)).toArray by simp [List.map_set]] at this
theorem MemAt.two {b' g' : Nat} (h : MemAt T w b g ws cnt) (ht : Two b' g' w w') (h1 : b ≠ b') (h2 : b ≠ g') (h3 : g ≠ b') (h4 : g ≠ g') : MemAt T w' b g ws cnt :=
  ⟨(ht.block b h.head.lt h1 h2).trans h.head, (ht.block g h.row.lt h3 h4).trans h.row, h.ne⟩

theorem Two.refl (b g : Nat) (w : World) : Two b g w w := ⟨rfl, rfl, rfl, Nat.le_refl _, fun _ _ _ _ => rfl⟩
theorem Two.alloc {a : World} (h : Two b g a w) (o : Obj) : Two b g a (w.alloc o) := ⟨h.os, h.tape, h.output, Nat.le_trans h.size (by simp), fun k hk h1 h2 => (Below.heap_alloc w o k (Nat.lt_of_lt_of_le hk h.size)).trans (h.block k hk h1 h2)⟩
theorem Two.drewN {a : World} (h : Two b g a w) (n : Nat) : Two b g a (w.drewN n) := ⟨h.os, h.tape, h.output, h.size, h.block⟩
theorem Two.drew {a : World} (h : Two b g a w) : Two b g a w.drew := ⟨h.os, h.tape, h.output, h.size, h.block⟩
theorem Two.setB {a : World} (h : Two b g a w) (i : Nat) (u : Value) : Two b g a (w.setCell ⟨b, i, none⟩ u) :=
  ⟨h.os, h.tape, h.output, by simpa [World.setCell] using h.size, fun k hk h1 h2 => (Below.heap_setCell w _ u k h1).trans (h.block k hk h1 h2)⟩
theorem Two.setG {a : World} (h : Two b g a w) (i : Nat) (u : Value) : Two b g a (w.setCell ⟨g, i, none⟩ u) :=
  ⟨h.os, h.tape, h.output, by simpa [World.setCell] using h.size, fun k hk h1 h2 => (Below.heap_setCell w _ u k h2).trans (h.block k hk h1 h2)⟩
theorem Two.setNew {a : World} (h : Two b g a w) {p : Addr} (hp : a.heap.size ≤ p.block) (u : Value) : Two b g a (w.setCell p u) :=
  ⟨h.os, h.tape, h.output, by simpa [World.setCell] using h.size, fun k hk h1 h2 => (Below.heap_setCell w _ u k (by omega)).trans (h.block k hk h1 h2)⟩
theorem Two.trans {a w w' : World} (h : Two b g a w) (h' : Two b g w w') : Two b g a w' :=
  ⟨h'.os.trans h.os, h'.tape.trans h.tape, h'.output.trans h.output, Nat.le_trans h.size h'.size, fun k hk h1 h2 => (h'.block k (Nat.lt_of_lt_of_le hk h.size) h1 h2).trans (h.block k hk h1 h2)⟩
theorem Two.below {a : World} {B : Nat} (h : Two b g w w') (hb : Below B a w) (h1 : B ≤ b) (h2 : B ≤ g) (h3 : B ≤ w.heap.size) : Below B a w' :=
  hb.trans ⟨h.os, h.tape, h.output, h.size, fun k hk => h.block k (by omega) (by omega) (by omega)⟩
end

end Go.Proofs.Ytfhbfjlbflkbhaa
