/-
  The book: a record more; both of machine and book.
-/
import Derived.Test.YtodaknidbdicdaaBookW
import Derived.Test.YtodaknidbdicdaaReads
import Derived.WalkKit
import Derived.Deep.DeepMust
import Derived.WalkSpells
import Derived.WalkLawsBesides
import Derived.Handy
import Derived.Lib.Hide
import Derived.Deep.QuietTactic
import Derived.BigQuiet
namespace Go.Proofs.Ytodaknidbdicdaa
open Go.RowKit

theorem tape_setCells (g : Nat) : ∀ (vs : List Value) (o : Nat) (w : World), (w.setCells g o vs).tape = w.tape
  | [], _, _ => rfl
  | v :: vs, o, w => (tape_setCells g vs (o + 1) (w.setCell ⟨g, o, none⟩ v)).trans rfl

/-- What an append of one record leaves. -/
structure Added (w w' : World) (v v' : Value) (β β' : Option Nat) (rs' : List Rec) : Prop where
  row : RecRow w' v' β' rs'
  size : w.heap.size ≤ w'.heap.size
  os : w'.os = w.os
  tape : w'.tape = w.tape
  output : w'.output = w.output
  block : ∀ i, i < w.heap.size → some i ≠ β → w'.heap[i]? = w.heap[i]?
  ne : β' = β ∨ ∃ g, β' = some g ∧ w.heap.size ≤ g

theorem run_append_rec {P : Program} {w : World} (t ty : TypeId) (i : TypeInfo) (z : Value) (ht : P.underlying t = some (.slice 64)) (hi : P.info? 64 = some i) (hz : i.zero = some z) (hsize : i.size = 17) (hby : i.bytes = 24) (hzs : z.cells.size = 17)
    {v : Value} {β : Option Nat} {rs : List Rec} (h : RecRow w v β rs) (hn : rs.length ≤ 1000000) (B cc : Nat) (r : Rec) (hB : Blk w B 64 (recA r)) :
    ∃ v' w' β', (Builtin.append_ #[t, t] ty #[v, .slice (some ⟨B, 0, none⟩) 1 cc]).run P w = .ok v' w' ∧ Added w w' v v' β β' (rs ++ [r]) := by
  have hs : Src P i.size t (.slice (some ⟨B, 0, none⟩) 1 cc) 1 (recA r).toList w := by
    refine Src.ofSlice w ht _ _ _ _ (by rw [hsize]; rfl) (fun j u hu => ?_) (recA_one r)
    rw [addr_add, Nat.zero_add, hB.cell, ← Array.getElem?_toList]
    exact hu
  have hnl : (recA r).toList.length = 17 := rfl
  rcases h with ⟨rfl, rfl, rfl⟩ | ⟨g, off, n, c, rfl, rfl, h⟩
  · have hrun := run_append_grow_src (P := P) w t t ty 64 i z ht hi hz none 0 0 [] (run_firstCells_none w.drew i.size 0 0 0) _ 1 _ hs (by omega) (by omega) (by rw [hby]; decide)
    have hge := grownCap_ge w (0 + 1) 0 64
    refine ⟨_, _, some w.heap.size, hrun, ⟨.inr ⟨w.heap.size, 0, 0 + 1, _, rfl, rfl, rfl, hge, _, Blk.new w.drew _ _, ?_, fun k q hk j hj => ?_⟩, by simp, rfl, rfl, rfl, fun k hk _ => Below.heap_alloc w.drew _ k hk, .inr ⟨_, rfl, Nat.le_refl _⟩⟩⟩
    · rw [Array.size_append, List.size_toArray, List.nil_append, hnl, size_zeroCells, hzs]
      have := hge
      omega
    · have hk0 : k = 0 := by
        have := (List.getElem?_eq_some_iff.1 hk).1
        simp at this
        omega
      subst hk0
      simp only [List.nil_append, List.getElem?_cons_zero, Option.some.injEq] at hk
      subst hk
      rw [List.nil_append, Array.getElem?_append_left (by rw [List.size_toArray, hnl]; omega), List.getElem?_toArray, ← Array.getElem?_toList, show 0 + 0 * 17 + j = j by omega]
  · have hle := h.le
    have hlen := h.len
    obtain ⟨cs, k1, k2, k3⟩ := h.blk
    by_cases hfit : n + 1 ≤ c
    · have hcn : (n + 1) * 17 ≤ c * 17 := Nat.mul_le_mul_right _ hfit
      have hst := setCells_blk g 64 (recA r).toList (off + n * 17) w cs k1 (by rw [hnl]; omega)
      have hrun := run_append_room_src (P := P) w t t ty 64 i ht hi g off n c _ 1 _ hs hfit (fun j hj => by
        rw [hnl] at hj
        rw [hsize, k1.cell, Array.getElem?_eq_getElem (by omega)]; rfl) (fun j _ => k1.frozen _)
      rw [hsize] at hrun
      obtain ⟨s1, cs', s2, s3, s4⟩ := hst
      refine ⟨_, _, some g, hrun, ⟨.inr ⟨g, off, n + 1, c, rfl, rfl, by rw [List.length_append, hlen]; rfl, hfit, cs', s2, by omega, fun k q hk j hj => ?_⟩, Nat.le_of_eq s1.size.symm, s1.os, s1.tape, s1.output, fun k _ hk => s1.block k (fun e => hk (by rw [e])), .inl rfl⟩⟩
      rw [s4, hnl]
      rcases Nat.lt_or_ge k n with hkn | hkn
      · have : (k + 1) * 17 ≤ n * 17 := Nat.mul_le_mul_right _ hkn
        rw [if_neg (by omega)]
        rw [List.getElem?_append_left (by omega)] at hk
        exact k3 k q hk j hj
      · rw [List.getElem?_append_right (by omega), hlen] at hk
        have hk0 : k - n = 0 := by
          have := (List.getElem?_eq_some_iff.1 hk).1
          simp at this
          omega
        have hkn' : k = n := by omega
        rw [hk0] at hk
        simp only [List.getElem?_cons_zero, Option.some.injEq] at hk
        subst hk
        rw [if_pos (by omega), ← Array.getElem?_toList, show off + k * 17 + j - (off + n * 17) = j by omega]
    · have hc : c = n := by omega
      subst hc
      obtain ⟨olds, ho⟩ : ∃ olds : List Value, olds = (List.range (c * 17)).map fun j => (cs[off + j]?).getD undef := ⟨_, rfl⟩
      have hol : olds.length = c * 17 := by rw [ho]; simp
      have hoat : ∀ j, j < c * 17 → olds[j]? = cs[off + j]? := fun j hj => by
        have h9 : cs[off + j]? = some (cs[off + j]'(by omega)) := Array.getElem?_eq_getElem (by omega)
        rw [ho, List.getElem?_map, List.getElem?_range hj]
        show some ((cs[off + j]?).getD undef) = _
        rw [h9]
        rfl
      have hold : (Builtin.firstCells i.size c (.slice (some ⟨g, off, none⟩) c c)).run P w.drew = .ok olds.toArray w.drew :=
        run_firstCells_some w.drew i.size c ⟨g, off, none⟩ c c olds (by rw [hol, hsize]) (fun j u hu => by
          have hj : j < c * 17 := by rw [← hol]; exact (List.getElem?_eq_some_iff.1 hu).1
          rw [addr_add]
          exact (k1.cell (off + j)).trans ((hoat j hj).symm.trans hu))
      have hrun := run_append_grow_src (P := P) w t t ty 64 i z ht hi hz (some ⟨g, off, none⟩) c c olds hold _ 1 _ hs (by omega) (by omega) (growslice_fits (by omega) (by rw [hby]; omega))
      have hge := grownCap_ge w (c + 1) c 64
      refine ⟨_, _, some w.heap.size, hrun, ⟨.inr ⟨w.heap.size, 0, c + 1, _, rfl, rfl, by rw [List.length_append, hlen]; rfl, hge, _, Blk.new w.drew _ _, ?_, fun k q hk j hj => ?_⟩, by simp, rfl, rfl, rfl, fun k hk _ => Below.heap_alloc w.drew _ k hk, .inr ⟨_, rfl, Nat.le_refl _⟩⟩⟩
      · rw [Array.size_append, List.size_toArray, List.length_append, hol, hnl, size_zeroCells, hzs]
        omega
      · rw [Nat.zero_add, Array.getElem?_append_left (by
            rw [List.size_toArray, List.length_append, hol, hnl]
            have h5 := (List.getElem?_eq_some_iff.1 hk).1
            rw [List.length_append, hlen] at h5
            simp at h5
            have : (k + 1) * 17 ≤ (c + 1) * 17 := Nat.mul_le_mul_right _ h5
            omega), List.getElem?_toArray]
        rcases Nat.lt_or_ge k c with hkn | hkn
        · have : (k + 1) * 17 ≤ c * 17 := Nat.mul_le_mul_right _ hkn
          rw [List.getElem?_append_left (by omega), hoat _ (by omega)]
          rw [List.getElem?_append_left (by omega)] at hk
          rw [← Nat.add_assoc]
          exact k3 k q hk j hj
        · rw [List.getElem?_append_right (by omega), hlen] at hk
          have hk0 : k - c = 0 := by
            have := (List.getElem?_eq_some_iff.1 hk).1
            simp at this
            omega
          have hkn' : k = c := by omega
          rw [hk0] at hk
          simp only [List.getElem?_cons_zero, Option.some.injEq] at hk
          subst hk
          rw [List.getElem?_append_right (by omega), hol, ← Array.getElem?_toList, show k * 17 + j - c * 17 = j by omega]

theorem step_append_rec {P : Program} {w : World} {ops : Array Oper} {o : Oper} {a : Act} {K : Act → World → Prop} {Q : Exit → Act → World → Prop} {E : Prop} (hgd : o.guard = none) (s x : Operand) (t : TypeId)
    (ho : o.op = .call { callee := .builtin .append, args := #[s, x], argTypes := #[t, t] })
    (i : TypeInfo) (z : Value) (ht : P.underlying t = some (.slice 64)) (hi : P.info? 64 = some i) (hz : i.zero = some z) (hsize : i.size = 17) (hby : i.bytes = 24) (hzs : z.cells.size = 17)
    {v : Value} {β : Option Nat} {rs : List Rec} (hs : a.eval s = v) (h : RecRow w v β rs) (hn : rs.length ≤ 1000000) (B cc : Nat) (r : Rec) (hx : a.eval x = .slice (some ⟨B, 0, none⟩) 1 cc) (hB : Blk w B 64 (recA r))
    (hK : ∀ v' w' β', Added w w' v v' β β' (rs ++ [r]) → K (a.put o.dst v') w') :
    if Region.wanted o (yielded ops a.tmps) = true then Oper.wp P o a w K Q else E := by
  have hw : Region.wanted o (yielded ops a.tmps) = true := by simp [Region.wanted, hgd]
  rw [if_pos hw]
  obtain ⟨v', w', β', hrun, h2⟩ := run_append_rec (P := P) t o.type i z ht hi hz hsize hby hzs h hn B cc r hB
  unfold Oper.wp execOp
  simp only [ho, resolve, invoke, builtin, Sem.run_bind, Sem.run_pure, Result.andThen_ok, List.map_toArray, List.map_cons, List.map_nil, hs, hx, hrun]
  exact hK v' w' β' h2

end Go.Proofs.Ytodaknidbdicdaa
