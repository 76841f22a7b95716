/-
  The reference's state, and its small functions.
-/
import Derived.Test.YtehmegnmfpfopaaWalkE
import Derived.WalkKit
import Derived.Deep.DeepMust
import Derived.WalkSpells
import Derived.WalkLawsBesides
import Derived.Handy
import Derived.Lib.Hide
import Derived.Deep.QuietTactic
import Derived.BigQuiet
namespace Go.Proofs.Ytehmegnmfpfopaa
open Go.RowKit

/-- Block g begins with the cells vs of type e. -/
def RowT (w : World) (g : Nat) (e : TypeId) (vs : List Value) : Prop := ∃ cur, Blk w g e cur ∧ cur.toList.take vs.length = vs
section
variable {w w' : World} {g : Nat} {e : TypeId} {vs : List Value}
theorem RowT.lt (h : RowT w g e vs) : g < w.heap.size := by obtain ⟨cur, h1, -⟩ := h; exact h1.lt
theorem RowT.cell (h : RowT w g e vs) (k : Nat) (u : Value) (hk : vs[k]? = some u) : w.cell? ⟨g, k, none⟩ = some u := by
  obtain ⟨cur, h1, h2⟩ := h
  rw [h1.cell, ← Array.getElem?_toList]
  have hkl : k < vs.length := (List.getElem?_eq_some_iff.1 hk).1
  rw [← h2, List.getElem?_take_of_lt hkl] at hk
  exact hk
theorem RowT.frz (h : RowT w g e vs) (k : Nat) : w.frozen? ⟨g, k, none⟩ = false := by obtain ⟨cur, h1, -⟩ := h; exact h1.frozen k
theorem RowT.below (h : RowT w g e vs) (hb : Below w.heap.size w w') : RowT w' g e vs := by obtain ⟨cur, h1, h2⟩ := h; exact ⟨cur, h1.below hb, h2⟩
theorem RowT.heap (h : RowT w g e vs) (hb : w'.heap[g]? = w.heap[g]?) : RowT w' g e vs := by obtain ⟨cur, h1, h2⟩ := h; exact ⟨cur, hb.trans h1, h2⟩
theorem RowT.alloc (h : RowT w g e vs) (o : Obj) : RowT (w.alloc o) g e vs := by obtain ⟨cur, h1, h2⟩ := h; exact ⟨cur, h1.alloc o, h2⟩
theorem RowT.far (h : RowT w g e vs) {p : Addr} (hp : g ≠ p.block) (u : Value) : RowT (w.setCell p u) g e vs := by obtain ⟨cur, h1, h2⟩ := h; exact ⟨cur, h1.far hp u, h2⟩
theorem RowT.set (h : RowT w g e vs) (k : Nat) (u : Value) : RowT (w.setCell ⟨g, k, none⟩ u) g e (vs.set k u) := by
  obtain ⟨cur, h1, h2⟩ := h
  refine ⟨_, h1.set_ k u, ?_⟩
  rw [Array.toList_setIfInBounds, List.length_set, List.take_set, h2]
theorem RowT.ne {g' : Nat} {e' : TypeId} {vs' : List Value} (h : RowT w g e vs) (h' : RowT w g' e' vs') (he : e ≠ e') : g ≠ g' := fun eq => by
  subst eq
  obtain ⟨cur, h1, -⟩ := h
  obtain ⟨cur', h2, -⟩ := h'
  unfold Blk at h1 h2
  rw [h1] at h2
  simp at h2
  exact he h2.2
theorem RowT.of_own {base n : Nat} {v : Value} (h : w.ownsRow base e 1 v n vs) (hl : vs.length = n) (hn : 0 < n) : ∃ g c, v = .slice (some ⟨g, 0, none⟩) n c ∧ n ≤ c ∧ base ≤ g ∧ RowT w g e vs := by
  rcases h.2 with ⟨-, h0⟩ | ⟨g, cap, cur, hv, hg, h2, h3, -, h4, h5⟩
  · omega
  · exact ⟨g, cap, hv, by omega, hg, cur, h2, by rw [hl]; simpa using h5⟩
end

theorem nodup_at {l : List Nat} (h : l.Nodup) {i j : Nat} (hi : i < l.length) (hj : j < l.length) (e : l[i] = l[j]) : i = j := by
  rcases (by omega : i < j ∨ j < i ∨ i = j) with h1 | h1 | h1
  · exact absurd e (List.pairwise_iff_getElem.1 (List.nodup_iff_pairwise_ne.1 h) i j hi hj h1)
  · exact absurd e.symm (List.pairwise_iff_getElem.1 (List.nodup_iff_pairwise_ne.1 h) j i hj hi h1)
  · exact h1

def rowV (F : Int → Int → Int) (s O : Nat) : List Value := (List.range O).map fun (i : Nat) => Value.int .i64 (F (s : Int) (i : Int))
def outV (gs : List Nat) (O : Nat) : List Value := gs.map fun g => Value.slice (some ⟨g, 0, none⟩) O O
theorem rowV_len (F : Int → Int → Int) (s O : Nat) : (rowV F s O).length = O := by simp [rowV]
theorem outV_len (gs : List Nat) (O : Nat) : (outV gs O).length = gs.length := by simp [outV]
theorem rowV_at (F : Int → Int → Int) (s : Nat) {O i : Nat} (h : i < O) : (rowV F s O)[i]? = some (.int .i64 (F (s : Int) (i : Int))) := by
  unfold rowV
  rw [List.getElem?_map, List.getElem?_range h]; rfl
theorem outV_at (gs : List Nat) (O : Nat) {s : Nat} (h : s < gs.length) : (outV gs O)[s]? = some (.slice (some ⟨gs[s], 0, none⟩) O O) := by
  unfold outV
  rw [List.getElem?_map, List.getElem?_eq_getElem h]; rfl

/-- Only the blocks gs may differ, of what was there. -/
structure Rws (gs : List Nat) (w w' : World) : Prop where
  os : w'.os = w.os
  tape : w'.tape = w.tape
  output : w'.output = w.output
  size : w.heap.size ≤ w'.heap.size
  block : ∀ k, k < w.heap.size → k ∉ gs → w'.heap[k]? = w.heap[k]?
section
variable {gs : List Nat} {a w w' : World}
theorem Rws.refl (gs : List Nat) (w : World) : Rws gs w w := ⟨rfl, rfl, rfl, Nat.le_refl _, fun _ _ _ => rfl⟩
theorem Rws.set (h : Rws gs a w) {g : Nat} (hg : g ∈ gs) (i : Nat) (u : Value) : Rws gs a (w.setCell ⟨g, i, none⟩ u) :=
  ⟨h.os, h.tape, h.output, by simpa [World.setCell] using h.size, fun k hk h1 => (Below.heap_setCell w _ u k (fun e => h1 (by rw [e]; exact hg))).trans (h.block k hk h1)⟩
theorem Rws.below {B : Nat} (h : Rws gs w w') (hb : Below B a w) (h1 : ∀ g ∈ gs, B ≤ g) (h3 : B ≤ w.heap.size) : Below B a w' :=
  hb.trans ⟨h.os, h.tape, h.output, h.size, fun k hk => h.block k (by omega) (fun e => by have := h1 k e; omega)⟩
theorem Blk.rws {k : Nat} {t : TypeId} {cs : Array Value} (h : Blk w k t cs) (hT : Rws gs w w') (h1 : k ∉ gs) : Blk w' k t cs := (hT.block k h.lt h1).trans h
theorem OwnAt.rws {b m S O n : Nat} {F : Int → Int → Int} (h : OwnAt w b m S O n F) (hT : Rws gs w w') (h1 : b ∉ gs) (h2 : m ∉ gs) : OwnAt w' b m S O n F := ⟨h.blk.rws hT h1, h.map.heap (hT.block m h.map.lt h2), h.s1, h.s2, h.o1, h.o2, h.in_⟩
end

/-- The reference's owner: block r; S rows of O numbers; all from B on. -/
structure RefIn (w : World) (B r : Nat) (S O : Nat) (F : Int → Int → Int) (ga c : Nat) (gs : List Nat) : Prop where
  blk : Blk w r 52 #[.slice (some ⟨ga, 0, none⟩) S c]
  len : gs.length = S
  out : RowT w ga 53 (outV gs O)
  row : ∀ (s : Nat) (h : s < gs.length), RowT w gs[s] 3 (rowV F s O)
  dup : gs.Nodup
  base : ∀ g ∈ gs, B ≤ g
  rb : B ≤ r
  ab : B ≤ ga
  s1 : 1 ≤ S
  s2 : S ≤ 256
  o1 : 1 ≤ O
  o2 : O ≤ 16
def RefAt (w : World) (B r : Nat) (S O : Nat) (F : Int → Int → Int) : Prop := ∃ ga c gs, RefIn w B r S O F ga c gs
section
variable {w w' : World} {B r S O ga c : Nat} {F : Int → Int → Int} {gs : List Nat}
theorem RefIn.below (h : RefIn w B r S O F ga c gs) (hb : Below w.heap.size w w') : RefIn w' B r S O F ga c gs :=
  ⟨h.blk.below hb, h.len, h.out.below hb, fun s hs => (h.row s hs).below hb, h.dup, h.base, h.rb, h.ab, h.s1, h.s2, h.o1, h.o2⟩
theorem RefAt.below (h : RefAt w B r S O F) (hb : Below w.heap.size w w') : RefAt w' B r S O F := by
  obtain ⟨ga, c, gs, h⟩ := h
  exact ⟨ga, c, gs, h.below hb⟩
theorem RefAt.one {m : Nat} (h : RefAt w B r S O F) (hT : One m w w') (hm : m < B) : RefAt w' B r S O F := by
  obtain ⟨ga, c, gs, h⟩ := h
  exact ⟨ga, c, gs, h.blk.one hT (by have := h.rb; omega), h.len, h.out.heap (hT.block _ h.out.lt (by have := h.ab; omega)), fun s hs => (h.row s hs).heap (hT.block _ (h.row s hs).lt (by have := h.base _ (List.getElem_mem hs); omega)), h.dup, h.base, h.rb, h.ab, h.s1, h.s2, h.o1, h.o2⟩
theorem RefIn.one {m : Nat} (h : RefIn w B r S O F ga c gs) (hT : One m w w') (hm : m < B) : RefIn w' B r S O F ga c gs :=
  ⟨h.blk.one hT (by have := h.rb; omega), h.len, h.out.heap (hT.block _ h.out.lt (by have := h.ab; omega)), fun s hs => (h.row s hs).heap (hT.block _ (h.row s hs).lt (by have := h.base _ (List.getElem_mem hs); omega)), h.dup, h.base, h.rb, h.ab, h.s1, h.s2, h.o1, h.o2⟩
theorem RefIn.lt (h : RefIn w B r S O F ga c gs) : ∀ g ∈ gs, g < w.heap.size := fun g hg => by
  obtain ⟨k, hk, e⟩ := List.mem_iff_getElem.1 hg
  rw [← e]
  exact (h.row k hk).lt
theorem RefIn.size (h : RefIn w B r S O F ga c gs) : B ≤ w.heap.size := by have := h.rb; have := h.blk.lt; omega
/-- A store. -/
theorem RefIn.set (h : RefIn w B r S O F ga c gs) {s i : Nat} (hs : s < S) (hi : i < O) (v : Int) : ∃ hs' : s < gs.length, RefIn (w.setCell ⟨gs[s], i, none⟩ (.int .i64 v)) B r S O (putF F (s : Int) (i : Int) v) ga c gs := by
  have hl : s < gs.length := by rw [h.len]; exact hs
  have hne1 : r ≠ gs[s] := fun e => by
    have h1 : RowT w r 52 [.slice (some ⟨ga, 0, none⟩) S c] := ⟨_, h.blk, rfl⟩
    exact h1.ne (h.row s hl) (by decide) e
  have hne2 : ga ≠ gs[s] := h.out.ne (h.row s hl) (by decide)
  refine ⟨hl, h.blk.far hne1 _, h.len, h.out.far hne2 _, fun k hk => ?_, h.dup, h.base, h.rb, h.ab, h.s1, h.s2, h.o1, h.o2⟩
  by_cases e : k = s
  · subst e
    have h1 := (h.row k hk).set i (.int .i64 v)
    have h2 : (rowV F k O).set i (.int .i64 v) = rowV (putF F (k : Int) (i : Int) v) k O := by
      apply List.ext_getElem?
      intro j
      rw [List.getElem?_set]
      by_cases hj : j < O
      · rw [rowV_at _ _ hj, rowV_at _ _ hj, rowV_len]
        unfold putF
        by_cases hij : i = j
        · subst hij; simp [hi]
        · rw [if_neg hij, if_neg (by omega)]
      · rw [List.getElem?_eq_none (by rw [rowV_len]; omega), List.getElem?_eq_none (by rw [rowV_len]; omega)]
        split
        · rename_i hij; subst hij; rw [if_neg (by rw [rowV_len]; exact hj)]
        · rfl
    rw [h2] at h1
    exact h1
  · have hne : gs[k] ≠ gs[s] := fun e' => e (nodup_at h.dup hk hl e')
    have h1 := (h.row k hk).far (p := ⟨gs[s], i, none⟩) hne (.int .i64 v)
    have h2 : rowV (putF F (s : Int) (i : Int) v) k O = rowV F k O := by
      unfold rowV putF
      refine List.map_congr_left fun j _ => ?_
      rw [if_neg (by omega)]
    rw [h2]
    exact h1
theorem RefIn.cell0 (h : RefIn w B r S O F ga c gs) : w.cell? ⟨r, 0, none⟩ = some (.slice (some ⟨ga, 0, none⟩) S c) := h.blk.cell 0
theorem RefIn.cellS (h : RefIn w B r S O F ga c gs) {s : Nat} (hs : s < S) : ∃ g, g ∈ gs ∧ w.cell? ⟨ga, s, none⟩ = some (.slice (some ⟨g, 0, none⟩) O O) ∧ (∀ i, i < O → w.cell? ⟨g, i, none⟩ = some (.int .i64 (F (s : Int) (i : Int)))) ∧ (∀ i, w.frozen? ⟨g, i, none⟩ = false) ∧
    ∀ i v, i < O → RefIn (w.setCell ⟨g, i, none⟩ (.int .i64 v)) B r S O (putF F (s : Int) (i : Int) v) ga c gs := by
  have hl : s < gs.length := by rw [h.len]; exact hs
  exact ⟨gs[s], List.getElem_mem hl, h.out.cell s _ (outV_at gs O hl), fun i hi => (h.row s hl).cell i _ (rowV_at F s hi), fun i => (h.row s hl).frz i, fun i v hi => (h.set hs hi v).2⟩
end

end Go.Proofs.Ytehmegnmfpfopaa
