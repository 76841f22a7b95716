/-
  The reference as it lies: a block, and its three rows.
-/
import Derived.Test.YtodaknidbdicdaaWalkD
import Derived.Laws.OwnMore
import Derived.WalkKit
import Derived.Deep.DeepMust
import Derived.WalkSpells
import Derived.WalkLawsBesides
import Derived.Handy
import Derived.Lib.Hide
import Derived.Deep.QuietTactic
import Derived.BigQuiet
namespace Go.Proofs.Ytodaknidbdicdaa
open Go.RowKit

/-- Block g begins with the cells vs of type e. -/
def RowT (w : World) (g : Nat) (e : TypeId) (vs : List Value) : Prop := ∃ cur, Blk w g e cur ∧ cur.toList.take vs.length = vs
section
variable {w w' : World} {g : Nat} {e : TypeId} {vs : List Value}
theorem RowT.lt (h : RowT w g e vs) : g < w.heap.size := by obtain ⟨cur, h1, -⟩ := h; exact h1.lt
theorem RowT.cell (h : RowT w g e vs) (k : Nat) (u : Value) (hk : vs[k]? = some u) : w.cell? ⟨g, k, none⟩ = some u := by
  obtain ⟨cur, h1, h2⟩ := h
  rw [h1.cell, ← Array.getElem?_toList]
  have hkl : k < vs.length := (List.getElem?_eq_some_iff.1 hk).1
  rw [← h2, List.getElem?_take_of_lt hkl] at hk
  exact hk
theorem RowT.frz (h : RowT w g e vs) (k : Nat) : w.frozen? ⟨g, k, none⟩ = false := by obtain ⟨cur, h1, -⟩ := h; exact h1.frozen k
theorem RowT.below (h : RowT w g e vs) (hb : Below w.heap.size w w') : RowT w' g e vs := by obtain ⟨cur, h1, h2⟩ := h; exact ⟨cur, h1.below hb, h2⟩
theorem RowT.heap (h : RowT w g e vs) (hb : w'.heap[g]? = w.heap[g]?) : RowT w' g e vs := by obtain ⟨cur, h1, h2⟩ := h; exact ⟨cur, hb.trans h1, h2⟩
theorem RowT.alloc (h : RowT w g e vs) (o : Obj) : RowT (w.alloc o) g e vs := by obtain ⟨cur, h1, h2⟩ := h; exact ⟨cur, h1.alloc o, h2⟩
theorem RowT.far (h : RowT w g e vs) {p : Addr} (hp : g ≠ p.block) (u : Value) : RowT (w.setCell p u) g e vs := by obtain ⟨cur, h1, h2⟩ := h; exact ⟨cur, h1.far hp u, h2⟩
theorem RowT.set (h : RowT w g e vs) (k : Nat) (u : Value) : RowT (w.setCell ⟨g, k, none⟩ u) g e (vs.set k u) := by
  obtain ⟨cur, h1, h2⟩ := h
  refine ⟨_, h1.set_ k u, ?_⟩
  rw [Array.toList_setIfInBounds, List.length_set, List.take_set, h2]
theorem RowT.ne {g' : Nat} {e' : TypeId} {vs' : List Value} (h : RowT w g e vs) (h' : RowT w g' e' vs') (he : e ≠ e') : g ≠ g' := fun eq => by
  subst eq
  obtain ⟨cur, h1, -⟩ := h
  obtain ⟨cur', h2, -⟩ := h'
  unfold Blk at h1 h2
  rw [h1] at h2
  simp at h2
  exact he h2.2
theorem RowT.of_own {base n : Nat} {v : Value} (h : w.ownsRow base e 1 v n vs) (hl : vs.length = n) (hn : 0 < n) : ∃ g c, v = .slice (some ⟨g, 0, none⟩) n c ∧ n ≤ c ∧ base ≤ g ∧ RowT w g e vs := by
  rcases h.2 with ⟨-, h0⟩ | ⟨g, cap, cur, hv, hg, h2, h3, -, h4, h5⟩
  · omega
  · exact ⟨g, cap, hv, by omega, hg, cur, h2, by rw [hl]; simpa using h5⟩
end

theorem nodup_at {l : List Nat} (h : l.Nodup) {i j : Nat} (hi : i < l.length) (hj : j < l.length) (e : l[i] = l[j]) : i = j := by
  rcases (by omega : i < j ∨ j < i ∨ i = j) with h1 | h1 | h1
  · exact absurd e (List.pairwise_iff_getElem.1 (List.nodup_iff_pairwise_ne.1 h) i j hi hj h1)
  · exact absurd e.symm (List.pairwise_iff_getElem.1 (List.nodup_iff_pairwise_ne.1 h) j i hj hi h1)
  · exact h1

theorem RowT.of_blk {w : World} {g : Nat} {e : TypeId} {cs : Array Value} (h : Blk w g e cs) : RowT w g e cs.toList := ⟨cs, h, List.take_length⟩
/-- Only the blocks gs may differ, of what was there. -/
structure Rws (gs : List Nat) (w w' : World) : Prop where
  os : w'.os = w.os
  tape : w'.tape = w.tape
  output : w'.output = w.output
  size : w.heap.size ≤ w'.heap.size
  block : ∀ k, k < w.heap.size → k ∉ gs → w'.heap[k]? = w.heap[k]?
section
variable {gs : List Nat} {a w w' : World}
theorem Rws.refl (gs : List Nat) (w : World) : Rws gs w w := ⟨rfl, rfl, rfl, Nat.le_refl _, fun _ _ _ => rfl⟩
theorem Rws.set (h : Rws gs a w) {g : Nat} (hg : g ∈ gs) (i : Nat) (u : Value) : Rws gs a (w.setCell ⟨g, i, none⟩ u) :=
  ⟨h.os, h.tape, h.output, by simpa [World.setCell] using h.size, fun k hk h1 => (Below.heap_setCell w _ u k (fun e => h1 (by rw [e]; exact hg))).trans (h.block k hk h1)⟩
theorem Rws.below {B : Nat} (h : Rws gs w w') (hb : Below B a w) (h1 : ∀ g ∈ gs, B ≤ g) (h3 : B ≤ w.heap.size) : Below B a w' :=
  hb.trans ⟨h.os, h.tape, h.output, h.size, fun k hk => h.block k (by omega) (fun e => by have := h1 k e; omega)⟩
theorem Blk.rws {k : Nat} {t : TypeId} {cs : Array Value} (h : Blk w k t cs) (hT : Rws gs w w') (h1 : k ∉ gs) : Blk w' k t cs := (hT.block k h.lt h1).trans h
end

theorem Rws.trans {gs : List Nat} {a w w' : World} (h : Rws gs a w) (h' : Rws gs w w') : Rws gs a w' :=
  ⟨h'.os.trans h.os, h'.tape.trans h.tape, h'.output.trans h.output, Nat.le_trans h.size h'.size, fun k hk h1 => (h'.block k (Nat.lt_of_lt_of_le hk h.size) h1).trans (h.block k hk h1)⟩
theorem Rws.of_below {w w' : World} (gs : List Nat) (h : Below w.heap.size w w') : Rws gs w w' := ⟨h.os, h.tape, h.output, h.size, fun k hk _ => h.block k hk⟩
theorem Rws.drew {gs : List Nat} {a w : World} (h : Rws gs a w) : Rws gs a w.drew := ⟨h.os, h.tape, h.output, h.size, h.block⟩
theorem Rws.drewN {gs : List Nat} {a w : World} (h : Rws gs a w) (n : Nat) : Rws gs a (w.drewN n) := ⟨h.os, h.tape, h.output, h.size, h.block⟩

theorem Row.rws {w w' : World} {gs : List Nat} {A : Option Addr} {xs : List Value} (h : Row w A xs) (hT : Rws gs w w') (h1 : 0 < xs.length → ∀ g off, A = some ⟨g, off, none⟩ → g ∉ gs) : Row w' A xs := fun hp => by
  obtain ⟨g, off, e, hb, hc⟩ := h hp
  exact ⟨g, off, e, Nat.lt_of_lt_of_le hb hT.size, fun j u hu => (World.cell?_of_block (w := w) (hT.block g hb (h1 hp g off e))).trans (hc j u hu)⟩
theorem HasRow.rws {w w' : World} {gs ws : List Nat} {A : Option Addr} {n c : Nat} {l : List Wt} (h : HasRow w gs A n c l) (hT : Rws ws w w') (hw : ∀ g ∈ ws, g ∈ gs) : HasRow w' gs A n c l :=
  ⟨h.len, h.cap, Row.rws h.row hT (fun hp g off e hm => h.ne (by rw [rowV_len] at hp; have := h.len; omega) g off e (hw g hm)), h.ne⟩
theorem RowV.rws {w w' : World} {gs ws : List Nat} {v : Value} {l : List Wt} (h : RowV w gs v l) (hT : Rws ws w w') (hw : ∀ g ∈ ws, g ∈ gs) : RowV w' gs v l := by
  rcases h with h | ⟨A, n, c, h1, h2⟩
  · exact .inl h
  · exact .inr ⟨A, n, c, h1, h2.rws hT hw⟩

def deepV (G : Gr) : List Value := (List.range G.C).map fun (i : Nat) => Value.int .i64 (G.D i)
def needV (G : Gr) : List Value := (List.range G.C).map fun (i : Nat) => Value.bool (G.N i)
theorem deepV_at {G : Gr} {k : Nat} (h : k < G.C) : (deepV G)[k]? = some (.int .i64 (G.D k)) := by unfold deepV; rw [List.getElem?_map, List.getElem?_range h]; rfl
theorem needV_at {G : Gr} {k : Nat} (h : k < G.C) : (needV G)[k]? = some (.bool (G.N k)) := by unfold needV; rw [List.getElem?_map, List.getElem?_range h]; rfl
theorem map_set {α : Type} (f : Nat → α) (g : α → Value) (n k : Nat) (x : α) : ((List.range n).map fun (i : Nat) => g (f i)).set k (g x) = (List.range n).map fun (i : Nat) => g (upd f k x i) := by
  apply List.ext_getElem?
  intro j
  rw [List.getElem?_set, List.length_map, List.length_range]
  by_cases hj : j < n
  · rw [List.getElem?_map, List.getElem?_map, List.getElem?_range hj]
    by_cases e : k = j
    · subst e; simp [hj, upd_same]
    · rw [if_neg e]; simp [upd_ne _ _ (fun e' => e e'.symm)]
  · rw [List.getElem?_eq_none (by simp; omega), List.getElem?_eq_none (by simp; omega)]
    split
    · split
      · omega
      · rfl
    · rfl

/-- The reference's block r, and its rows da, ra, na. -/
structure RefIn (w : World) (B r da ra na : Nat) (gs : List Nat) (G : Gr) : Prop where
  blk : Blk w r 70 #[.slice (some ⟨da, 0, none⟩) G.C G.C, .slice (some ⟨ra, 0, none⟩) G.C G.C, .int .i64 (G.E : Int), .bool G.go, .slice (some ⟨na, 0, none⟩) G.C G.C]
  deep : RowT w da 3 (deepV G)
  rows : ∃ vs : List Value, RowT w ra 66 vs ∧ vs.length = G.C ∧ ∀ k, k < G.C → ∃ A n c, vs[k]? = some (.slice A n c) ∧ HasRow w gs A n c (G.L k)
  need : RowT w na 4 (needV G)
  b1 : B ≤ r
  b2 : B ≤ da
  b3 : B ≤ ra
  b4 : B ≤ na
  ws : ∀ g ∈ [r, da, ra, na], g ∈ gs
  lts : ∀ g ∈ gs, g < w.heap.size
section
variable {w w' : World} {B r da ra na : Nat} {gs : List Nat} {G : Gr}
theorem RefIn.ne1 (h : RefIn w B r da ra na gs G) : r ≠ da := (RowT.of_blk h.blk).ne h.deep (by decide)
theorem RefIn.ne2 (h : RefIn w B r da ra na gs G) : r ≠ ra := by obtain ⟨vs, h1, -⟩ := h.rows; exact (RowT.of_blk h.blk).ne h1 (by decide)
theorem RefIn.ne3 (h : RefIn w B r da ra na gs G) : r ≠ na := (RowT.of_blk h.blk).ne h.need (by decide)
theorem RefIn.ne4 (h : RefIn w B r da ra na gs G) : da ≠ ra := by obtain ⟨vs, h1, -⟩ := h.rows; exact h.deep.ne h1 (by decide)
theorem RefIn.ne5 (h : RefIn w B r da ra na gs G) : da ≠ na := h.deep.ne h.need (by decide)
theorem RefIn.ne6 (h : RefIn w B r da ra na gs G) : ra ≠ na := by obtain ⟨vs, h1, -⟩ := h.rows; exact h1.ne h.need (by decide)
theorem RefIn.lt (h : RefIn w B r da ra na gs G) : ∀ g ∈ [r, da, ra, na], g < w.heap.size := fun g hg => by
  simp only [List.mem_cons, List.not_mem_nil, or_false] at hg
  rcases hg with rfl | rfl | rfl | rfl
  · exact h.blk.lt
  · exact h.deep.lt
  · obtain ⟨vs, h1, -⟩ := h.rows; exact h1.lt
  · exact h.need.lt
theorem RefIn.base (h : RefIn w B r da ra na gs G) : ∀ g ∈ [r, da, ra, na], B ≤ g := fun g hg => by
  simp only [List.mem_cons, List.not_mem_nil, or_false] at hg
  rcases hg with rfl | rfl | rfl | rfl
  · exact h.b1
  · exact h.b2
  · exact h.b3
  · exact h.b4
/-- What leaves the four blocks and what was there alone. -/
theorem RefIn.keep (h : RefIn w B r da ra na gs G) (hz : w.heap.size ≤ w'.heap.size) (hk : ∀ k, k < w.heap.size → B ≤ k → w'.heap[k]? = w.heap[k]?)
    (hr : ∀ k A n c, k < G.C → HasRow w gs A n c (G.L k) → HasRow w' gs A n c (G.L k)) : RefIn w' B r da ra na gs G := by
  obtain ⟨vs, h1, h2, h3⟩ := h.rows
  exact ⟨(hk _ h.blk.lt h.b1).trans h.blk, h.deep.heap (hk _ h.deep.lt h.b2), ⟨vs, h1.heap (hk _ h1.lt h.b3), h2, fun k hk' => by
    obtain ⟨A, n, c, h4, h5⟩ := h3 k hk'
    exact ⟨A, n, c, h4, hr k A n c hk' h5⟩⟩, h.need.heap (hk _ h.need.lt h.b4), h.b1, h.b2, h.b3, h.b4, h.ws, fun g hg => Nat.lt_of_lt_of_le (h.lts g hg) hz⟩
theorem RefIn.below (h : RefIn w B r da ra na gs G) (hb : Below w.heap.size w w') : RefIn w' B r da ra na gs G :=
  h.keep hb.size (fun k hk _ => hb.block k hk) (fun _ _ _ _ _ hf => hf.below hb)
theorem RefIn.drew (h : RefIn w B r da ra na gs G) : RefIn w.drew B r da ra na gs G := h.below (Below.refl _ _).drew
theorem RefIn.drewN (h : RefIn w B r da ra na gs G) (n : Nat) : RefIn (w.drewN n) B r da ra na gs G := h.below (below_drewN (Below.refl _ _) n)

theorem RefIn.c0 (h : RefIn w B r da ra na gs G) : w.cell? ⟨r, 0, none⟩ = some (.slice (some ⟨da, 0, none⟩) G.C G.C) := h.blk.cell 0
theorem RefIn.c1 (h : RefIn w B r da ra na gs G) : w.cell? ⟨r, 1, none⟩ = some (.slice (some ⟨ra, 0, none⟩) G.C G.C) := h.blk.cell 1
theorem RefIn.c2 (h : RefIn w B r da ra na gs G) : w.cell? ⟨r, 2, none⟩ = some (.int .i64 (G.E : Int)) := h.blk.cell 2
theorem RefIn.c3 (h : RefIn w B r da ra na gs G) : w.cell? ⟨r, 3, none⟩ = some (.bool G.go) := h.blk.cell 3
theorem RefIn.c4 (h : RefIn w B r da ra na gs G) : w.cell? ⟨r, 4, none⟩ = some (.slice (some ⟨na, 0, none⟩) G.C G.C) := h.blk.cell 4
theorem RefIn.cD (h : RefIn w B r da ra na gs G) {k : Nat} (hk : k < G.C) : w.cell? ⟨da, k, none⟩ = some (.int .i64 (G.D k)) := h.deep.cell k _ (deepV_at hk)
theorem RefIn.cN (h : RefIn w B r da ra na gs G) {k : Nat} (hk : k < G.C) : w.cell? ⟨na, k, none⟩ = some (.bool (G.N k)) := h.need.cell k _ (needV_at hk)
theorem RefIn.cR (h : RefIn w B r da ra na gs G) {k : Nat} (hk : k < G.C) : ∃ A n c, w.cell? ⟨ra, k, none⟩ = some (.slice A n c) ∧ HasRow w gs A n c (G.L k) := by
  obtain ⟨vs, h1, h2, h3⟩ := h.rows
  obtain ⟨A, n, c, h4, h5⟩ := h3 k hk
  exact ⟨A, n, c, h1.cell k _ h4, h5⟩
theorem RefIn.fR (h : RefIn w B r da ra na gs G) (k : Nat) : w.frozen? ⟨ra, k, none⟩ = false := by
  obtain ⟨vs, h1, h2, h3⟩ := h.rows
  exact h1.frz k

theorem RefIn.setE (h : RefIn w B r da ra na gs G) (x : Nat) : RefIn (w.setCell ⟨r, 2, none⟩ (.int .i64 (x : Int))) B r da ra na gs { G with E := x } := by
  have hT : Rws [r, da, ra, na] w (w.setCell ⟨r, 2, none⟩ (.int .i64 (x : Int))) := (Rws.refl _ w).set (by simp) 2 _
  obtain ⟨vs, h1, h2, h3⟩ := h.rows
  exact ⟨h.blk.set_ 2 _, h.deep.far (fun e => h.ne1 e.symm) _, ⟨vs, h1.far (fun e => h.ne2 e.symm) _, h2, fun k hk => by
    obtain ⟨A, n, c, h4, h5⟩ := h3 k hk
    exact ⟨A, n, c, h4, h5.rws hT h.ws⟩⟩, h.need.far (fun e => h.ne3 e.symm) _, h.b1, h.b2, h.b3, h.b4, h.ws, fun g hg => by simpa [World.setCell] using h.lts g hg⟩
theorem RefIn.setGo (h : RefIn w B r da ra na gs G) (x : Bool) : RefIn (w.setCell ⟨r, 3, none⟩ (.bool x)) B r da ra na gs { G with go := x } := by
  have hT : Rws [r, da, ra, na] w (w.setCell ⟨r, 3, none⟩ (.bool x)) := (Rws.refl _ w).set (by simp) 3 _
  obtain ⟨vs, h1, h2, h3⟩ := h.rows
  exact ⟨h.blk.set_ 3 _, h.deep.far (fun e => h.ne1 e.symm) _, ⟨vs, h1.far (fun e => h.ne2 e.symm) _, h2, fun k hk => by
    obtain ⟨A, n, c, h4, h5⟩ := h3 k hk
    exact ⟨A, n, c, h4, h5.rws hT h.ws⟩⟩, h.need.far (fun e => h.ne3 e.symm) _, h.b1, h.b2, h.b3, h.b4, h.ws, fun g hg => by simpa [World.setCell] using h.lts g hg⟩
theorem RefIn.setD (h : RefIn w B r da ra na gs G) (k : Nat) (x : Int) : RefIn (w.setCell ⟨da, k, none⟩ (.int .i64 x)) B r da ra na gs { G with D := upd G.D k x } := by
  have hT : Rws [r, da, ra, na] w (w.setCell ⟨da, k, none⟩ (.int .i64 x)) := (Rws.refl _ w).set (by simp) k _
  obtain ⟨vs, h1, h2, h3⟩ := h.rows
  refine ⟨h.blk.far (fun e => h.ne1 e) _, ?_, ⟨vs, h1.far (fun e => h.ne4 e.symm) _, h2, fun k hk => by
    obtain ⟨A, n, c, h4, h5⟩ := h3 k hk
    exact ⟨A, n, c, h4, h5.rws hT h.ws⟩⟩, h.need.far (fun e => h.ne5 e.symm) _, h.b1, h.b2, h.b3, h.b4, h.ws, fun g hg => by simpa [World.setCell] using h.lts g hg⟩
  have h5 := h.deep.set k (.int .i64 x)
  have e : (deepV G).set k (.int .i64 x) = deepV { G with D := upd G.D k x } := map_set G.D (fun z => Value.int .i64 z) G.C k x
  rw [e] at h5
  exact h5
theorem RefIn.setN (h : RefIn w B r da ra na gs G) (k : Nat) (x : Bool) : RefIn (w.setCell ⟨na, k, none⟩ (.bool x)) B r da ra na gs { G with N := upd G.N k x } := by
  have hT : Rws [r, da, ra, na] w (w.setCell ⟨na, k, none⟩ (.bool x)) := (Rws.refl _ w).set (by simp) k _
  obtain ⟨vs, h1, h2, h3⟩ := h.rows
  refine ⟨h.blk.far (fun e => h.ne3 e) _, h.deep.far (fun e => h.ne5 e) _, ⟨vs, h1.far (fun e => h.ne6 e) _, h2, fun k hk => by
    obtain ⟨A, n, c, h4, h5⟩ := h3 k hk
    exact ⟨A, n, c, h4, h5.rws hT h.ws⟩⟩, ?_, h.b1, h.b2, h.b3, h.b4, h.ws, fun g hg => by simpa [World.setCell] using h.lts g hg⟩
  have h5 := h.need.set k (.bool x)
  have e : (needV G).set k (.bool x) = needV { G with N := upd G.N k x } := map_set G.N (fun z => Value.bool z) G.C k x
  rw [e] at h5
  exact h5
theorem RefIn.setR (h : RefIn w B r da ra na gs G) {k : Nat} (hk : k < G.C) {A : Option Addr} {n c : Nat} {l : List Wt} (hl : HasRow w gs A n c l) : RefIn (w.setCell ⟨ra, k, none⟩ (.slice A n c)) B r da ra na gs { G with L := upd G.L k l } := by
  have hT : Rws [r, da, ra, na] w (w.setCell ⟨ra, k, none⟩ (.slice A n c)) := (Rws.refl _ w).set (by simp) k _
  obtain ⟨vs, h1, h2, h3⟩ := h.rows
  refine ⟨h.blk.far (fun e => h.ne2 e) _, h.deep.far (fun e => h.ne4 e) _, ⟨vs.set k (.slice A n c), h1.set k _, by rw [List.length_set]; exact h2, fun j hj => ?_⟩, h.need.far (fun e => h.ne6 e.symm) _, h.b1, h.b2, h.b3, h.b4, h.ws, fun g hg => by simpa [World.setCell] using h.lts g hg⟩
  show ∃ A' n' c', _ ∧ HasRow _ _ A' n' c' (upd G.L k l j)
  by_cases e : j = k
  · subst e
    rw [upd_same, List.getElem?_set_self (by omega)]
    exact ⟨A, n, c, rfl, hl.rws hT h.ws⟩
  · rw [upd_ne _ _ e, List.getElem?_set_ne (fun e' => e e'.symm)]
    obtain ⟨A', n', c', h4, h5⟩ := h3 j hj
    exact ⟨A', n', c', h4, h5.rws hT h.ws⟩

theorem RefIn.one {b : Nat} (h : RefIn w B r da ra na gs G) (hT : One b w w') (hb : b ∉ [r, da, ra, na]) (hm : b ∈ gs) : RefIn w' B r da ra na gs G := by
  obtain ⟨vs, h1, h2, h3⟩ := h.rows
  have ne : ∀ k, k ∈ [r, da, ra, na] → k ≠ b := fun k hk e => hb (e ▸ hk)
  exact ⟨h.blk.one hT (ne r (by simp)), h.deep.heap (hT.block _ h.deep.lt (ne da (by simp))), ⟨vs, h1.heap (hT.block _ h1.lt (ne ra (by simp))), h2, fun k hk' => by
    obtain ⟨A, n, c, h4, h5⟩ := h3 k hk'
    exact ⟨A, n, c, h4, h5.one hT hm⟩⟩, h.need.heap (hT.block _ h.need.lt (ne na (by simp))), h.b1, h.b2, h.b3, h.b4, h.ws, fun g hg => Nat.lt_of_lt_of_le (h.lts g hg) hT.size⟩
/-- The program's machine stands behind what the reference writes. -/
theorem GrAt.rws {ws : List Nat} {b : Nat} (h : GrAt w b gs G) (hT : Rws ws w w') (h1 : b ∉ ws) (hw : ∀ g ∈ ws, g ∈ gs) : GrAt w' b gs G := by
  obtain ⟨hg, hz, cs, hB, hC⟩ := h
  exact ⟨hg, fun g hg' => Nat.lt_of_lt_of_le (hz g hg') hT.size, cs, hB.rws hT h1, hC.size, hC.cpus, hC.deep, fun k hk => (hC.rows k hk).imp fun v h => ⟨h.1, h.2.rws hT hw⟩, hC.ended, hC.going, hC.needs⟩
theorem RefIn.far {b : Nat} {G' : Gr} (h : RefIn w B r da ra na gs G) (hG : GrAt w b gs G') : b ∉ [r, da, ra, na] := fun hm => by
  obtain ⟨-, -, cs, hB, -⟩ := hG
  have h0 := RowT.of_blk hB
  obtain ⟨vs, h1, -⟩ := h.rows
  simp only [List.mem_cons, List.not_mem_nil, or_false] at hm
  rcases hm with e | e | e | e
  · exact h0.ne (RowT.of_blk h.blk) (by decide) e
  · exact h0.ne h.deep (by decide) e
  · exact h0.ne h1 (by decide) e
  · exact h0.ne h.need (by decide) e
end

end Go.Proofs.Ytodaknidbdicdaa
