/-
  A whole struct stored into a block of its own: behind it the world is a letter again, of which the block and all other blocks are known.
-/
import Derived.Deep.MidRow
import Derived.Test.YtodaknidbdicdaaWorlds
namespace Go.Proofs.Ytodaknidbdicdaa
open Go.RowKit

/-- Block g is just the cells cs of type t, none of them frozen. -/
def Blk (w : World) (g : Nat) (t : TypeId) (cs : Array Value) : Prop := w.heap[g]? = some (.cells cs t (0, 0))
/-- w' is w, but for block g, and for draws. -/
structure Only (g : Nat) (w w' : World) : Prop where
  os : w'.os = w.os
  tape : w'.tape = w.tape
  output : w'.output = w.output
  size : w'.heap.size = w.heap.size
  block : ∀ k, k ≠ g → w'.heap[k]? = w.heap[k]?

section
variable {w w' : World} {g : Nat} {t : TypeId} {cs : Array Value}
theorem Blk.lt (h : Blk w g t cs) : g < w.heap.size := by
  rcases Nat.lt_or_ge g w.heap.size with hlt | hge
  · exact hlt
  · unfold Blk at h; rw [Array.getElem?_eq_none hge] at h; cases h
theorem Blk.cell (h : Blk w g t cs) (i : Nat) : w.cell? ⟨g, i, none⟩ = cs[i]? := by
  unfold Blk at h
  simp [World.cell?, h]
theorem Blk.frozen (h : Blk w g t cs) (i : Nat) : w.frozen? ⟨g, i, none⟩ = false := by
  unfold Blk at h
  simp [World.frozen?, h]
theorem Blk.new (w : World) (t : TypeId) (cs : Array Value) : Blk (w.alloc (.cells cs t)) w.heap.size t cs := heap_alloc_new w _
theorem Blk.new2 (w : World) (o : Obj) (t : TypeId) (cs : Array Value) : Blk ((w.alloc o).alloc (.cells cs t)) (w.heap.size + 1) t cs := by
  have k := heap_alloc_new (w.alloc o) (.cells cs t (0, 0))
  rw [World.size_alloc] at k
  exact k
theorem Blk.new3 (w : World) (o o' : Obj) (t : TypeId) (cs : Array Value) : Blk (((w.alloc o).alloc o').alloc (.cells cs t)) (w.heap.size + 1 + 1) t cs := by
  have k := Blk.new2 (w.alloc o) o' t cs
  rw [World.size_alloc] at k
  exact k
theorem Blk.alloc (h : Blk w g t cs) (o : Obj) : Blk (w.alloc o) g t cs := (Below.heap_alloc w o g h.lt).trans h
theorem Blk.below (h : Blk w g t cs) (hb : Below w.heap.size w w') : Blk w' g t cs := (hb.block g h.lt).trans h
theorem Blk.drewN (h : Blk w g t cs) (n : Nat) : Blk (w.drewN n) g t cs := h
theorem Blk.drew (h : Blk w g t cs) : Blk w.drew g t cs := h
theorem Blk.only {g' : Nat} (h : Blk w g t cs) (hb : Only g' w w') (hne : g ≠ g') : Blk w' g t cs := (hb.block g hne).trans h
theorem Blk.set_ (h : Blk w g t cs) (i : Nat) (u : Value) : Blk (w.setCell ⟨g, i, none⟩ u) g t (cs.setIfInBounds i u) := by
  unfold Blk at h ⊢
  simp [World.setCell, Array.getElem?_modify, h]
theorem Blk.far (h : Blk w g t cs) {p : Addr} (hp : g ≠ p.block) (u : Value) : Blk (w.setCell p u) g t cs := (Below.heap_setCell w p u g hp).trans h

theorem Only.cell (h : Only g w w') (b o : Nat) (hb : b ≠ g) : w'.cell? ⟨b, o, none⟩ = w.cell? ⟨b, o, none⟩ := World.cell?_of_block (w := w) (h.block b hb)
theorem Only.frozen (h : Only g w w') (b o : Nat) (hb : b ≠ g) : w'.frozen? ⟨b, o, none⟩ = w.frozen? ⟨b, o, none⟩ := World.frozen?_of_block (w := w) (h.block b hb)
theorem Only.below (h : Only g w w') {B : Nat} (hB : B ≤ g) : Below B w w' := ⟨h.os, h.tape, h.output, Nat.le_of_eq h.size.symm, fun k hk => h.block k (by omega)⟩
/-- Behind what comes of a world below B, a store into a block from B on. -/
theorem below_only {W : World} {B : Nat} (hb : Below B W w) (h : Only g w w') (hB : B ≤ g) : Below B W w' := hb.trans (h.below hB)

theorem setCells_blk (g : Nat) (t : TypeId) : ∀ (vs : List Value) (o : Nat) (w : World) (cs : Array Value), Blk w g t cs → o + vs.length ≤ cs.size →
    Only g w (w.setCells g o vs) ∧ ∃ cs' : Array Value, Blk (w.setCells g o vs) g t cs' ∧ cs'.size = cs.size ∧ ∀ j, cs'[j]? = if o ≤ j ∧ j < o + vs.length then vs[j - o]? else cs[j]?
  | [], o, w, cs, h, _ => ⟨⟨rfl, rfl, rfl, rfl, fun _ _ => rfl⟩, cs, h, rfl, fun j => by rw [if_neg (by simp only [List.length_nil]; omega)]⟩
  | v :: vs, o, w, cs, h, hl => by
    simp only [List.length_cons] at hl
    have h1 := h.set_ o v
    obtain ⟨ho, cs', h2, h3, h4⟩ := setCells_blk g t vs (o + 1) (w.setCell ⟨g, o, none⟩ v) (cs.setIfInBounds o v) h1 (by rw [Array.size_setIfInBounds]; omega)
    refine ⟨⟨ho.os, ho.tape, ho.output, ?_, fun k hk => ?_⟩, cs', h2, ?_, fun j => ?_⟩
    · rw [show (w.setCells g o (v :: vs)) = (w.setCell ⟨g, o, none⟩ v).setCells g (o + 1) vs from rfl, ho.size]
      simp [World.setCell]
    · rw [show (w.setCells g o (v :: vs)) = (w.setCell ⟨g, o, none⟩ v).setCells g (o + 1) vs from rfl, ho.block k hk]
      exact Below.heap_setCell w ⟨g, o, none⟩ v k hk
    · rw [h3, Array.size_setIfInBounds]
    · rw [h4, Array.getElem?_setIfInBounds, List.length_cons]
      by_cases hj : j = o
      · subst hj
        rw [if_neg (by omega), if_pos rfl, if_pos (by omega), if_pos (by omega)]
        simp
      · by_cases hin : o ≤ j ∧ j < o + (vs.length + 1)
        · rw [if_pos (by omega), if_pos hin, show j - o = (j - (o + 1)) + 1 by omega, List.getElem?_cons_succ]
        · rw [if_neg (by omega), if_neg (by omega), if_neg hin]

/-- A struct (or an array) stored whole into a block that is just it. -/
theorem wpList_store_blk {P : Program} {ops : Array Oper} {rest : List Oper} {op : Oper} {a : Act} {Q : Exit → Act → World → Prop} (hgd : op.guard = none) (ty : TypeId) (x y : Operand) (ho : op.op = .store ty x y)
    (cells : Array Value) (hx : a.eval x = .pointer (some ⟨g, 0, none⟩)) (hy : a.eval y = .agg cells) (hb : Blk w g t cs) (hsz : cs.size = cells.size)
    (hi : (P.info? ty).map (·.size) = some cells.size) (h1 : cells.all (·.oneCell') = true)
    (h : ∀ w', Only g w w' → Blk w' g t cells → wpList P ops Q rest (a.put op.dst undef) w') : wpList P ops Q (op :: rest) a w := by
  have ht : w.there g 0 cells.size := fun j hj => by
    rw [Nat.zero_add, hb.cell, Array.getElem?_eq_getElem (by omega)]
    exact ⟨rfl, hb.frozen _⟩
  refine wpList_store_mid hgd ty x y ho g 0 cells hx hy ht hi h1 ?_
  obtain ⟨k1, cs', k2, k3, k4⟩ := setCells_blk g t cells.toList 0 w cs hb (by simp; omega)
  have e : cs' = cells := by
    apply Array.ext_getElem?
    intro j
    rw [k4]
    by_cases hj : j < cells.size
    · rw [if_pos ⟨Nat.zero_le _, by simpa using hj⟩]
      simp
    · rw [if_neg (by simp; omega), Array.getElem?_eq_none (by omega), Array.getElem?_eq_none (by omega)]
  rw [e] at k2
  exact h _ k1 k2
end

end Go.Proofs.Ytodaknidbdicdaa
