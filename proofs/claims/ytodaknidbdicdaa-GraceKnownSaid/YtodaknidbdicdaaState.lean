/-
  The machine as it lies: one block, and its rows.
-/
import Derived.Test.YtodaknidbdicdaaPlain
import Derived.Test.YtodaknidbdicdaaSRowsW
import Derived.Test.YtodaknidbdicdaaStore
import Derived.Test.YtodaknidbdicdaaRow
namespace Go.Proofs.Ytodaknidbdicdaa
open Go.RowKit

/-- w' is w, but for block b, new blocks, and draws. -/
structure One (b : Nat) (w w' : World) : Prop where
  os : w'.os = w.os
  tape : w'.tape = w.tape
  output : w'.output = w.output
  size : w.heap.size ≤ w'.heap.size
  block : ∀ k, k < w.heap.size → k ≠ b → w'.heap[k]? = w.heap[k]?
section
variable {w w' a : World} {b : Nat}
theorem One.refl (b : Nat) (w : World) : One b w w := ⟨rfl, rfl, rfl, Nat.le_refl _, fun _ _ _ => rfl⟩
theorem One.alloc (h : One b a w) (o : Obj) : One b a (w.alloc o) := ⟨h.os, h.tape, h.output, Nat.le_trans h.size (by simp), fun k hk h1 => (Below.heap_alloc w o k (Nat.lt_of_lt_of_le hk h.size)).trans (h.block k hk h1)⟩
theorem One.drew (h : One b a w) : One b a w.drew := ⟨h.os, h.tape, h.output, h.size, h.block⟩
theorem One.drewN (h : One b a w) (n : Nat) : One b a (w.drewN n) := ⟨h.os, h.tape, h.output, h.size, h.block⟩
theorem One.set (h : One b a w) (i : Nat) (u : Value) : One b a (w.setCell ⟨b, i, none⟩ u) :=
  ⟨h.os, h.tape, h.output, by simpa [World.setCell] using h.size, fun k hk h1 => (Below.heap_setCell w _ u k h1).trans (h.block k hk h1)⟩
theorem One.setNew (h : One b a w) {p : Addr} (hp : a.heap.size ≤ p.block) (u : Value) : One b a (w.setCell p u) :=
  ⟨h.os, h.tape, h.output, by simpa [World.setCell] using h.size, fun k hk h1 => (Below.heap_setCell w _ u k (by omega)).trans (h.block k hk h1)⟩
theorem One.trans (h : One b a w) (h' : One b w w') : One b a w' :=
  ⟨h'.os.trans h.os, h'.tape.trans h.tape, h'.output.trans h.output, Nat.le_trans h.size h'.size, fun k hk h1 => (h'.block k (Nat.lt_of_lt_of_le hk h.size) h1).trans (h.block k hk h1)⟩
theorem One.of_below (b : Nat) (h : Below w.heap.size w w') : One b w w' := ⟨h.os, h.tape, h.output, h.size, fun k hk _ => h.block k hk⟩
theorem One.below {B : Nat} (h : One b w w') (hb : Below B a w) (h1 : B ≤ b) (h3 : B ≤ w.heap.size) : Below B a w' :=
  hb.trans ⟨h.os, h.tape, h.output, h.size, fun k hk => h.block k (by omega) (by omega)⟩
theorem Blk.one {k : Nat} {t : TypeId} {cs : Array Value} (h : Blk w k t cs) (hT : One b w w') (h1 : k ≠ b) : Blk w' k t cs := (hT.block k h.lt h1).trans h
theorem Row.one {A : Option Addr} {xs : List Value} (h : Row w A xs) (hT : One b w w') (h1 : 0 < xs.length → ∀ g off, A = some ⟨g, off, none⟩ → g ≠ b) : Row w' A xs := fun hp => by
  obtain ⟨g, off, e, hb, hc⟩ := h hp
  exact ⟨g, off, e, Nat.lt_of_lt_of_le hb hT.size, fun j u hu => (World.cell?_of_block (w := w) (hT.block g hb (h1 hp g off e))).trans (hc j u hu)⟩
end

/-- A row of records that lies in none of the blocks gs. -/
structure HasRow (w : World) (gs : List Nat) (A : Option Addr) (n c : Nat) (l : List Wt) : Prop where
  len : l.length = n
  cap : n ≤ c
  row : WRow w A l
  ne : 0 < n → ∀ g off, A = some ⟨g, off, none⟩ → g ∉ gs
/-- What lies in a place for a row: nothing, or one. -/
def RowV (w : World) (gs : List Nat) (v : Value) (l : List Wt) : Prop := (v = .nilIface ∧ l = []) ∨ ∃ A n c, v = .iface 66 (.slice A n c) ∧ HasRow w gs A n c l
section
variable {w w' : World} {b : Nat} {gs : List Nat} {A : Option Addr} {n c : Nat} {l : List Wt} {v : Value}
theorem HasRow.nil (w : World) (gs : List Nat) (A : Option Addr) (c : Nat) : HasRow w gs A 0 c [] := ⟨rfl, Nat.zero_le _, (fun h => by simp [rowV] at h), fun h => by omega⟩
theorem HasRow.below (h : HasRow w gs A n c l) (hb : Below w.heap.size w w') : HasRow w' gs A n c l := ⟨h.len, h.cap, Row.below h.row hb, h.ne⟩
theorem HasRow.one (h : HasRow w gs A n c l) (hT : One b w w') (hg : b ∈ gs) : HasRow w' gs A n c l :=
  ⟨h.len, h.cap, Row.one h.row hT (fun hp g off e e' => h.ne (by rw [rowV_len] at hp; have := h.len; omega) g off e (by rw [e']; exact hg)), h.ne⟩
theorem RowV.below (h : RowV w gs v l) (hb : Below w.heap.size w w') : RowV w' gs v l := by
  rcases h with h | ⟨A, n, c, h1, h2⟩
  · exact .inl h
  · exact .inr ⟨A, n, c, h1, h2.below hb⟩
theorem RowV.one (h : RowV w gs v l) (hT : One b w w') (hg : b ∈ gs) : RowV w' gs v l := by
  rcases h with h | ⟨A, n, c, h1, h2⟩
  · exact .inl h
  · exact .inr ⟨A, n, c, h1, h2.one hT hg⟩
theorem RowV.widen (h : RowV w gs v l) (hl : l = []) (gs' : List Nat) : RowV w gs' v l := by
  rcases h with h | ⟨A, n, c, h1, h2⟩
  · exact .inl h
  · exact .inr ⟨A, n, c, h1, h2.len, h2.cap, h2.row, fun hn => by have := h2.len; rw [hl] at this; simp at this; omega⟩
end

structure GrC (w : World) (gs : List Nat) (cs : Array Value) (G : Gr) : Prop where
  size : cs.size = 27
  cpus : cs[0]? = some (.int .i64 (G.C : Int))
  deep : ∀ k, k < 8 → cs[1 + k]? = some (.int .i64 (G.D k))
  rows : ∀ k, k < 8 → ∃ v, cs[9 + k]? = some v ∧ RowV w gs v (G.L k)
  ended : cs[17]? = some (.int .i64 (G.E : Int))
  going : cs[18]? = some (.bool G.go)
  needs : ∀ k, k < 8 → cs[19 + k]? = some (.bool (G.N k))
def GrAt (w : World) (b : Nat) (gs : List Nat) (G : Gr) : Prop := b ∈ gs ∧ (∀ g ∈ gs, g < w.heap.size) ∧ ∃ cs, Blk w b 57 cs ∧ GrC w gs cs G
section
variable {w w' : World} {b : Nat} {gs : List Nat} {G : Gr}
theorem GrAt.mem (h : GrAt w b gs G) : b ∈ gs := h.1
theorem GrAt.lts (h : GrAt w b gs G) : ∀ g ∈ gs, g < w.heap.size := h.2.1
theorem GrAt.lt (h : GrAt w b gs G) : b < w.heap.size := by obtain ⟨-, -, cs, hB, -⟩ := h; exact hB.lt
theorem GrAt.frz (h : GrAt w b gs G) (i : Nat) : w.frozen? ⟨b, i, none⟩ = false := by obtain ⟨-, -, cs, hB, -⟩ := h; exact hB.frozen i
theorem GrAt.cpus (h : GrAt w b gs G) : w.cell? ⟨b, 0, none⟩ = some (.int .i64 (G.C : Int)) := by obtain ⟨hg, hz, cs, hB, hC⟩ := h; rw [hB.cell]; exact hC.cpus
theorem GrAt.deep (h : GrAt w b gs G) {k : Nat} (hk : k < 8) : w.cell? ⟨b, 1 + k, none⟩ = some (.int .i64 (G.D k)) := by obtain ⟨hg, hz, cs, hB, hC⟩ := h; rw [hB.cell]; exact hC.deep k hk
theorem GrAt.rows (h : GrAt w b gs G) {k : Nat} (hk : k < 8) : ∃ v, w.cell? ⟨b, 9 + k, none⟩ = some v ∧ RowV w gs v (G.L k) := by obtain ⟨hg, hz, cs, hB, hC⟩ := h; rw [hB.cell]; exact hC.rows k hk
theorem GrAt.ended (h : GrAt w b gs G) : w.cell? ⟨b, 17, none⟩ = some (.int .i64 (G.E : Int)) := by obtain ⟨hg, hz, cs, hB, hC⟩ := h; rw [hB.cell]; exact hC.ended
theorem GrAt.going (h : GrAt w b gs G) : w.cell? ⟨b, 18, none⟩ = some (.bool G.go) := by obtain ⟨hg, hz, cs, hB, hC⟩ := h; rw [hB.cell]; exact hC.going
theorem GrAt.needs (h : GrAt w b gs G) {k : Nat} (hk : k < 8) : w.cell? ⟨b, 19 + k, none⟩ = some (.bool (G.N k)) := by obtain ⟨hg, hz, cs, hB, hC⟩ := h; rw [hB.cell]; exact hC.needs k hk
theorem GrAt.below (h : GrAt w b gs G) (hb : Below w.heap.size w w') : GrAt w' b gs G := by
  obtain ⟨hg, hz, cs, hB, hC⟩ := h
  exact ⟨hg, fun g h => Nat.lt_of_lt_of_le (hz g h) hb.size, cs, hB.below hb, hC.size, hC.cpus, hC.deep, fun k hk => (hC.rows k hk).imp fun v h => ⟨h.1, h.2.below hb⟩, hC.ended, hC.going, hC.needs⟩
theorem GrAt.alloc (h : GrAt w b gs G) (o : Obj) : GrAt (w.alloc o) b gs G := h.below ((Below.refl _ _).alloc (Nat.le_refl _) _)
theorem GrAt.drew (h : GrAt w b gs G) : GrAt w.drew b gs G := h.below (Below.refl _ _).drew
theorem GrAt.drewN (h : GrAt w b gs G) (n : Nat) : GrAt (w.drewN n) b gs G := h.below (below_drewN (Below.refl _ _) n)

theorem set_ne {cs : Array Value} {i j : Nat} {u : Value} (he : i ≠ j) : (cs.setIfInBounds i u)[j]? = cs[j]? := Array.getElem?_setIfInBounds_ne he
theorem set_self {cs : Array Value} {i n : Nat} {u : Value} (h : cs.size = n) (hi : i < n) : (cs.setIfInBounds i u)[i]? = some u := Array.getElem?_setIfInBounds_self_of_lt (by omega)

theorem GrAt.setDeep (h : GrAt w b gs G) {k : Nat} (hk : k < 8) (x : Int) : GrAt (w.setCell ⟨b, 1 + k, none⟩ (.int .i64 x)) b gs { G with D := upd G.D k x } := by
  obtain ⟨hg, hz, cs, hB, hC⟩ := h
  have hT := (One.refl b w).set (1 + k) (.int .i64 x)
  refine ⟨hg, fun g h => by simpa [World.setCell] using hz g h, _, hB.set_ (1 + k) _, by simp [hC.size], ?_, fun j hj => ?_, fun j hj => ?_, ?_, ?_, fun j hj => ?_⟩
  · rw [set_ne (by omega)]; exact hC.cpus
  · show (_ : Option Value) = some (.int .i64 (upd G.D k x j))
    by_cases e : j = k
    · subst e; rw [upd_same, set_self hC.size (by omega)]
    · rw [upd_ne _ _ e, set_ne (by omega)]; exact hC.deep j hj
  · rw [set_ne (by omega)]; exact (hC.rows j hj).imp fun v h => ⟨h.1, h.2.one hT hg⟩
  · rw [set_ne (by omega)]; exact hC.ended
  · rw [set_ne (by omega)]; exact hC.going
  · rw [set_ne (by omega)]; exact hC.needs j hj
theorem GrAt.setNeed (h : GrAt w b gs G) {k : Nat} (hk : k < 8) (x : Bool) : GrAt (w.setCell ⟨b, 19 + k, none⟩ (.bool x)) b gs { G with N := upd G.N k x } := by
  obtain ⟨hg, hz, cs, hB, hC⟩ := h
  have hT := (One.refl b w).set (19 + k) (.bool x)
  refine ⟨hg, fun g h => by simpa [World.setCell] using hz g h, _, hB.set_ (19 + k) _, by simp [hC.size], ?_, fun j hj => ?_, fun j hj => ?_, ?_, ?_, fun j hj => ?_⟩
  · rw [set_ne (by omega)]; exact hC.cpus
  · rw [set_ne (by omega)]; exact hC.deep j hj
  · rw [set_ne (by omega)]; exact (hC.rows j hj).imp fun v h => ⟨h.1, h.2.one hT hg⟩
  · rw [set_ne (by omega)]; exact hC.ended
  · rw [set_ne (by omega)]; exact hC.going
  · show (_ : Option Value) = some (.bool (upd G.N k x j))
    by_cases e : j = k
    · subst e; rw [upd_same, set_self hC.size (by omega)]
    · rw [upd_ne _ _ e, set_ne (by omega)]; exact hC.needs j hj
theorem GrAt.setGoing (h : GrAt w b gs G) (x : Bool) : GrAt (w.setCell ⟨b, 18, none⟩ (.bool x)) b gs { G with go := x } := by
  obtain ⟨hg, hz, cs, hB, hC⟩ := h
  have hT := (One.refl b w).set 18 (.bool x)
  refine ⟨hg, fun g h => by simpa [World.setCell] using hz g h, _, hB.set_ 18 _, by simp [hC.size], ?_, fun j hj => ?_, fun j hj => ?_, ?_, ?_, fun j hj => ?_⟩
  · rw [set_ne (by omega)]; exact hC.cpus
  · rw [set_ne (by omega)]; exact hC.deep j hj
  · rw [set_ne (by omega)]; exact (hC.rows j hj).imp fun v h => ⟨h.1, h.2.one hT hg⟩
  · rw [set_ne (by omega)]; exact hC.ended
  · rw [set_self hC.size (by omega)]
  · rw [set_ne (by omega)]; exact hC.needs j hj
theorem GrAt.setEnded (h : GrAt w b gs G) (x : Nat) : GrAt (w.setCell ⟨b, 17, none⟩ (.int .i64 (x : Int))) b gs { G with E := x } := by
  obtain ⟨hg, hz, cs, hB, hC⟩ := h
  have hT := (One.refl b w).set 17 (.int .i64 (x : Int))
  refine ⟨hg, fun g h => by simpa [World.setCell] using hz g h, _, hB.set_ 17 _, by simp [hC.size], ?_, fun j hj => ?_, fun j hj => ?_, ?_, ?_, fun j hj => ?_⟩
  · rw [set_ne (by omega)]; exact hC.cpus
  · rw [set_ne (by omega)]; exact hC.deep j hj
  · rw [set_ne (by omega)]; exact (hC.rows j hj).imp fun v h => ⟨h.1, h.2.one hT hg⟩
  · rw [set_self hC.size (by omega)]
  · rw [set_ne (by omega)]; exact hC.going
  · rw [set_ne (by omega)]; exact hC.needs j hj
theorem GrAt.setRow (h : GrAt w b gs G) {k : Nat} (hk : k < 8) {A : Option Addr} {n c : Nat} {l : List Wt} (hl : HasRow w gs A n c l) : GrAt (w.setCell ⟨b, 9 + k, none⟩ (.iface 66 (.slice A n c))) b gs { G with L := upd G.L k l } := by
  obtain ⟨hg, hz, cs, hB, hC⟩ := h
  have hT := (One.refl b w).set (9 + k) (.iface 66 (.slice A n c))
  refine ⟨hg, fun g h => by simpa [World.setCell] using hz g h, _, hB.set_ (9 + k) _, by simp [hC.size], ?_, fun j hj => ?_, fun j hj => ?_, ?_, ?_, fun j hj => ?_⟩
  · rw [set_ne (by omega)]; exact hC.cpus
  · rw [set_ne (by omega)]; exact hC.deep j hj
  · show ∃ v, _ ∧ RowV _ gs v (upd G.L k l j)
    by_cases e : j = k
    · subst e; rw [upd_same, set_self hC.size (by omega)]
      exact ⟨_, rfl, .inr ⟨A, n, c, rfl, hl.one hT hg⟩⟩
    · rw [upd_ne _ _ e, set_ne (by omega)]; exact (hC.rows j hj).imp fun v h => ⟨h.1, h.2.one hT hg⟩
  · rw [set_ne (by omega)]; exact hC.ended
  · rw [set_ne (by omega)]; exact hC.going
  · rw [set_ne (by omega)]; exact hC.needs j hj
theorem GrAt.new (w : World) (C : Nat) : GrAt (w.alloc (.cells #[.int .i64 (C : Int), .int .i64 0, .int .i64 0, .int .i64 0, .int .i64 0, .int .i64 0, .int .i64 0, .int .i64 0, .int .i64 0, .nilIface, .nilIface, .nilIface, .nilIface, .nilIface, .nilIface, .nilIface, .nilIface, .int .i64 0, .bool false, .bool false, .bool false, .bool false, .bool false, .bool false, .bool false, .bool false, .bool false] 57)) w.heap.size [w.heap.size] (newG C) := by
  refine ⟨by simp, by simp, _, Blk.new w _ _, rfl, rfl, fun k hk => ?_, fun k hk => ?_, rfl, rfl, fun k hk => ?_⟩
  · match k, hk with
    | 0, _ | 1, _ | 2, _ | 3, _ | 4, _ | 5, _ | 6, _ | 7, _ => rfl
  · refine ⟨.nilIface, ?_, .inl ⟨rfl, rfl⟩⟩
    match k, hk with
    | 0, _ | 1, _ | 2, _ | 3, _ | 4, _ | 5, _ | 6, _ | 7, _ => rfl
  · match k, hk with
    | 0, _ | 1, _ | 2, _ | 3, _ | 4, _ | 5, _ | 6, _ | 7, _ => rfl
/-- Where no record waits, the rows lie outside of any blocks. -/
theorem GrAt.widen (h : GrAt w b gs G) (hl : ∀ k, G.L k = []) {gs' : List Nat} (hb : b ∈ gs') (hg : ∀ g ∈ gs', g < w.heap.size) : GrAt w b gs' G := by
  obtain ⟨-, -, cs, hB, hC⟩ := h
  exact ⟨hb, hg, cs, hB, hC.size, hC.cpus, hC.deep, fun k hk => (hC.rows k hk).imp fun v h => ⟨h.1, h.2.widen (hl k) gs'⟩, hC.ended, hC.going, hC.needs⟩
end

end Go.Proofs.Ytodaknidbdicdaa
