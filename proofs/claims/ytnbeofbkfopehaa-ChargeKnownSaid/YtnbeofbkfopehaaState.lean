/-
  Counters as they lie: one block.
-/
import Derived.Test.YtnbeofbkfopehaaStore
import Derived.Test.YtnbeofbkfopehaaRow
namespace Go.Proofs.Ytnbeofbkfopehaa
open Go.RowKit

/-- The program's block: made, what is charged to groups 1 to 16, their limits; U k, M k are group k + 1's. -/
def ChC (cs : Array Value) (U M : Nat → Int) : Prop :=
  cs.size = 33 ∧ cs[0]? = some (.bool true) ∧ ∀ k, k < 16 → cs[1 + k]? = some (.int .i64 (U k)) ∧ cs[17 + k]? = some (.int .i64 (M k))
/-- The reference's: place 0 is nobody's. -/
def ReC (cs : Array Value) (U M : Nat → Int) : Prop :=
  cs.size = 34 ∧ ∀ k, k < 16 → cs[k + 1]? = some (.int .i64 (U k)) ∧ cs[17 + (k + 1)]? = some (.int .i64 (M k))
def ChAt (w : World) (b : Nat) (U M : Nat → Int) : Prop := ∃ cs, Blk w b 45 cs ∧ ChC cs U M
def ReAt (w : World) (b : Nat) (U M : Nat → Int) : Prop := ∃ cs, Blk w b 48 cs ∧ ReC cs U M
def upd (U : Nat → Int) (k : Nat) (x : Int) : Nat → Int := fun j => if j = k then x else U j

/-- w' is w, but for block b, new blocks, and draws. -/
structure One (b : Nat) (w w' : World) : Prop where
  os : w'.os = w.os
  tape : w'.tape = w.tape
  output : w'.output = w.output
  size : w.heap.size ≤ w'.heap.size
  block : ∀ k, k < w.heap.size → k ≠ b → w'.heap[k]? = w.heap[k]?

section
variable {w w' a : World} {b : Nat} {U M : Nat → Int}
theorem One.refl (b : Nat) (w : World) : One b w w := ⟨rfl, rfl, rfl, Nat.le_refl _, fun _ _ _ => rfl⟩
theorem One.alloc (h : One b a w) (o : Obj) : One b a (w.alloc o) := ⟨h.os, h.tape, h.output, Nat.le_trans h.size (by simp), fun k hk h1 => (Below.heap_alloc w o k (Nat.lt_of_lt_of_le hk h.size)).trans (h.block k hk h1)⟩
theorem One.drew (h : One b a w) : One b a w.drew := ⟨h.os, h.tape, h.output, h.size, h.block⟩
theorem One.drewN (h : One b a w) (n : Nat) : One b a (w.drewN n) := ⟨h.os, h.tape, h.output, h.size, h.block⟩
theorem One.set (h : One b a w) (i : Nat) (u : Value) : One b a (w.setCell ⟨b, i, none⟩ u) :=
  ⟨h.os, h.tape, h.output, by simpa [World.setCell] using h.size, fun k hk h1 => (Below.heap_setCell w _ u k h1).trans (h.block k hk h1)⟩
theorem One.setNew (h : One b a w) {p : Addr} (hp : a.heap.size ≤ p.block) (u : Value) : One b a (w.setCell p u) :=
  ⟨h.os, h.tape, h.output, by simpa [World.setCell] using h.size, fun k hk h1 => (Below.heap_setCell w _ u k (by omega)).trans (h.block k hk h1)⟩
theorem One.trans (h : One b a w) (h' : One b w w') : One b a w' :=
  ⟨h'.os.trans h.os, h'.tape.trans h.tape, h'.output.trans h.output, Nat.le_trans h.size h'.size, fun k hk h1 => (h'.block k (Nat.lt_of_lt_of_le hk h.size) h1).trans (h.block k hk h1)⟩
theorem One.of_below (b : Nat) (h : Below w.heap.size w w') : One b w w' := ⟨h.os, h.tape, h.output, h.size, fun k hk _ => h.block k hk⟩
theorem One.below {B : Nat} (h : One b w w') (hb : Below B a w) (h1 : B ≤ b) (h3 : B ≤ w.heap.size) : Below B a w' :=
  hb.trans ⟨h.os, h.tape, h.output, h.size, fun k hk => h.block k (by omega) (by omega)⟩
theorem Blk.one {k : Nat} {t : TypeId} {cs : Array Value} (h : Blk w k t cs) (hT : One b w w') (h1 : k ≠ b) : Blk w' k t cs := (hT.block k h.lt h1).trans h
theorem Row.one {A : Option Addr} {xs : List Value} (h : Row w A xs) (hT : One b w w') (h1 : 0 < xs.length → ∀ g off, A = some ⟨g, off, none⟩ → g ≠ b) : Row w' A xs := fun hp => by
  obtain ⟨g, off, e, hb, hc⟩ := h hp
  exact ⟨g, off, e, Nat.lt_of_lt_of_le hb hT.size, fun j u hu => (World.cell?_of_block (w := w) (hT.block g hb (h1 hp g off e))).trans (hc j u hu)⟩

theorem ChAt.lt (h : ChAt w b U M) : b < w.heap.size := by obtain ⟨cs, hB, -⟩ := h; exact hB.lt
theorem ChAt.made (h : ChAt w b U M) : w.cell? ⟨b, 0, none⟩ = some (.bool true) := by obtain ⟨cs, hB, hC⟩ := h; rw [hB.cell]; exact hC.2.1
theorem ChAt.used (h : ChAt w b U M) {k : Nat} (hk : k < 16) : w.cell? ⟨b, 1 + k, none⟩ = some (.int .i64 (U k)) := by obtain ⟨cs, hB, hC⟩ := h; rw [hB.cell]; exact (hC.2.2 k hk).1
theorem ChAt.most (h : ChAt w b U M) {k : Nat} (hk : k < 16) : w.cell? ⟨b, 17 + k, none⟩ = some (.int .i64 (M k)) := by obtain ⟨cs, hB, hC⟩ := h; rw [hB.cell]; exact (hC.2.2 k hk).2
theorem ChAt.frozen (h : ChAt w b U M) (i : Nat) : w.frozen? ⟨b, i, none⟩ = false := by obtain ⟨cs, hB, -⟩ := h; exact hB.frozen i
theorem ChAt.alloc (h : ChAt w b U M) (o : Obj) : ChAt (w.alloc o) b U M := by obtain ⟨cs, hB, hC⟩ := h; exact ⟨cs, hB.alloc o, hC⟩
theorem ChAt.drew (h : ChAt w b U M) : ChAt w.drew b U M := h
theorem ChAt.drewN (h : ChAt w b U M) (n : Nat) : ChAt (w.drewN n) b U M := h
theorem ChAt.below (h : ChAt w b U M) (hb : Below w.heap.size w w') : ChAt w' b U M := by obtain ⟨cs, hB, hC⟩ := h; exact ⟨cs, hB.below hb, hC⟩
theorem ChAt.one {g : Nat} (h : ChAt w b U M) (hT : One g w w') (h1 : b ≠ g) : ChAt w' b U M := by obtain ⟨cs, hB, hC⟩ := h; exact ⟨cs, hB.one hT h1, hC⟩
theorem ChAt.far (h : ChAt w b U M) {p : Addr} (hp : b ≠ p.block) (u : Value) : ChAt (w.setCell p u) b U M := by obtain ⟨cs, hB, hC⟩ := h; exact ⟨cs, hB.far hp u, hC⟩
theorem ChAt.setUsed (h : ChAt w b U M) {k : Nat} (hk : k < 16) (x : Int) : ChAt (w.setCell ⟨b, 1 + k, none⟩ (.int .i64 x)) b (upd U k x) M := by
  obtain ⟨cs, hB, hs, h0, hC⟩ := h
  refine ⟨_, hB.set_ (1 + k) _, by simp [hs], ?_, fun j hj => ⟨?_, ?_⟩⟩
  · rw [Array.getElem?_setIfInBounds_ne (by omega)]; exact h0
  · by_cases hjk : j = k
    · subst hjk
      rw [Array.getElem?_setIfInBounds_self_of_lt (by omega)]
      simp [upd]
    · rw [Array.getElem?_setIfInBounds_ne (by omega), (hC j hj).1]
      simp [upd, hjk]
  · rw [Array.getElem?_setIfInBounds_ne (by omega)]; exact (hC j hj).2
theorem ChAt.setMost (h : ChAt w b U M) {k : Nat} (hk : k < 16) (x : Int) : ChAt (w.setCell ⟨b, 17 + k, none⟩ (.int .i64 x)) b U (upd M k x) := by
  obtain ⟨cs, hB, hs, h0, hC⟩ := h
  refine ⟨_, hB.set_ (17 + k) _, by simp [hs], ?_, fun j hj => ⟨?_, ?_⟩⟩
  · rw [Array.getElem?_setIfInBounds_ne (by omega)]; exact h0
  · rw [Array.getElem?_setIfInBounds_ne (by omega)]; exact (hC j hj).1
  · by_cases hjk : j = k
    · subst hjk
      rw [Array.getElem?_setIfInBounds_self_of_lt (by omega)]
      simp [upd]
    · rw [Array.getElem?_setIfInBounds_ne (by omega), (hC j hj).2]
      simp [upd, hjk]

theorem ReAt.lt (h : ReAt w b U M) : b < w.heap.size := by obtain ⟨cs, hB, -⟩ := h; exact hB.lt
theorem ReAt.used (h : ReAt w b U M) {k : Nat} (hk : k < 16) : w.cell? ⟨b, k + 1, none⟩ = some (.int .i64 (U k)) := by obtain ⟨cs, hB, hC⟩ := h; rw [hB.cell]; exact (hC.2 k hk).1
theorem ReAt.most (h : ReAt w b U M) {k : Nat} (hk : k < 16) : w.cell? ⟨b, 17 + (k + 1), none⟩ = some (.int .i64 (M k)) := by obtain ⟨cs, hB, hC⟩ := h; rw [hB.cell]; exact (hC.2 k hk).2
theorem ReAt.frozen (h : ReAt w b U M) (i : Nat) : w.frozen? ⟨b, i, none⟩ = false := by obtain ⟨cs, hB, -⟩ := h; exact hB.frozen i
theorem ReAt.alloc (h : ReAt w b U M) (o : Obj) : ReAt (w.alloc o) b U M := by obtain ⟨cs, hB, hC⟩ := h; exact ⟨cs, hB.alloc o, hC⟩
theorem ReAt.drew (h : ReAt w b U M) : ReAt w.drew b U M := h
theorem ReAt.drewN (h : ReAt w b U M) (n : Nat) : ReAt (w.drewN n) b U M := h
theorem ReAt.below (h : ReAt w b U M) (hb : Below w.heap.size w w') : ReAt w' b U M := by obtain ⟨cs, hB, hC⟩ := h; exact ⟨cs, hB.below hb, hC⟩
theorem ReAt.one {g : Nat} (h : ReAt w b U M) (hT : One g w w') (h1 : b ≠ g) : ReAt w' b U M := by obtain ⟨cs, hB, hC⟩ := h; exact ⟨cs, hB.one hT h1, hC⟩
theorem ReAt.setUsed (h : ReAt w b U M) {k : Nat} (hk : k < 16) (x : Int) : ReAt (w.setCell ⟨b, k + 1, none⟩ (.int .i64 x)) b (upd U k x) M := by
  obtain ⟨cs, hB, hs, hC⟩ := h
  refine ⟨_, hB.set_ (k + 1) _, by simp [hs], fun j hj => ⟨?_, ?_⟩⟩
  · by_cases hjk : j = k
    · subst hjk
      rw [Array.getElem?_setIfInBounds_self_of_lt (by omega)]
      simp [upd]
    · rw [Array.getElem?_setIfInBounds_ne (by omega), (hC j hj).1]
      simp [upd, hjk]
  · rw [Array.getElem?_setIfInBounds_ne (by omega)]; exact (hC j hj).2
theorem ReAt.setMost (h : ReAt w b U M) {k : Nat} (hk : k < 16) (x : Int) : ReAt (w.setCell ⟨b, 17 + (k + 1), none⟩ (.int .i64 x)) b U (upd M k x) := by
  obtain ⟨cs, hB, hs, hC⟩ := h
  refine ⟨_, hB.set_ (17 + (k + 1)) _, by simp [hs], fun j hj => ⟨?_, ?_⟩⟩
  · rw [Array.getElem?_setIfInBounds_ne (by omega)]; exact (hC j hj).1
  · by_cases hjk : j = k
    · subst hjk
      rw [Array.getElem?_setIfInBounds_self_of_lt (by omega)]
      simp [upd]
    · rw [Array.getElem?_setIfInBounds_ne (by omega), (hC j hj).2]
      simp [upd, hjk]
end

end Go.Proofs.Ytnbeofbkfopehaa
