/-
  Rows of records as they lie: two cells each.
-/
import Derived.Test.YtodaknidbdicdaaSPlain
import Derived.Test.YtodaknidbdicdaaRow
import Derived.Test.YtodaknidbdicdaaReads
import Derived.Test.YtodaknidbdicdaaStore
import Derived.Test.YtodaknidbdicdaaOpenRow
namespace Go.Proofs.Ytodaknidbdicdaa
open Go.RowKit

def rowV : List Wt → List Value
  | [] => []
  | x :: r => .int .i64 x.id :: .int .i64 x.at_ :: rowV r
theorem rowV_len : ∀ l : List Wt, (rowV l).length = l.length * 2
  | [] => rfl
  | x :: r => by simp only [rowV, List.length_cons, rowV_len r]; omega
theorem rowV_append (a : List Wt) : ∀ b : List Wt, rowV (a ++ b) = rowV a ++ rowV b := by
  induction a with
  | nil => intro b; rfl
  | cons x r ih => intro b; simp only [List.cons_append, rowV, ih]
theorem rowV_id : ∀ {l : List Wt} {k : Nat} (h : k < l.length), (rowV l)[k * 2]? = some (.int .i64 l[k].id)
  | [], k, h => by simp at h
  | x :: r, 0, _ => rfl
  | x :: r, k + 1, h => by
    rw [show (k + 1) * 2 = k * 2 + 1 + 1 by omega]
    simp only [rowV, List.getElem?_cons_succ, List.getElem_cons_succ]
    exact rowV_id (by simpa using h)
theorem rowV_at : ∀ {l : List Wt} {k : Nat} (h : k < l.length), (rowV l)[k * 2 + 1]? = some (.int .i64 l[k].at_)
  | [], k, h => by simp at h
  | x :: r, 0, _ => rfl
  | x :: r, k + 1, h => by
    rw [show (k + 1) * 2 + 1 = (k * 2 + 1) + 1 + 1 by omega]
    simp only [rowV, List.getElem?_cons_succ, List.getElem_cons_succ]
    exact rowV_at (by simpa using h)
theorem rowV_one : ∀ {l : List Wt}, ∀ u ∈ rowV l, u.oneCell' = true
  | [], u, h => by cases h
  | x :: r, u, h => by
    simp only [rowV, List.mem_cons] at h
    rcases h with rfl | rfl | h
    · rfl
    · rfl
    · exact rowV_one u h
theorem rowV_drop : ∀ (l : List Wt) (k : Nat), rowV (l.drop k) = (rowV l).drop (k * 2)
  | [], k => by simp [rowV]
  | x :: r, 0 => rfl
  | x :: r, k + 1 => by
    rw [show (k + 1) * 2 = k * 2 + 1 + 1 by omega]
    simp only [List.drop_succ_cons, rowV]
    exact rowV_drop r k

abbrev WRow (w : World) (A : Option Addr) (l : List Wt) : Prop := Row w A (rowV l)
section
variable {w w' : World} {A : Option Addr} {l : List Wt}
theorem wrow_cells {b off : Nat} (h : ∀ j u, (rowV l)[j]? = some u → w.cell? ⟨b, off + j, none⟩ = some u) {k : Nat} (hk : k < l.length) :
    w.cell? ⟨b, off + k * 2, none⟩ = some (.int .i64 l[k].id) ∧ w.cell? ⟨b, off + k * 2 + 1, none⟩ = some (.int .i64 l[k].at_) :=
  ⟨h _ _ (rowV_id hk), h _ _ (rowV_at hk)⟩
theorem WRow.reads {n : Nat} (h : WRow w A l) (hn : l.length = n) : Reads w w.heap.size 2 A n (rowV l) :=
  ⟨by rw [rowV_len, hn], fun hp => by
    obtain ⟨b, off, e, hb, hc⟩ := h (by rw [rowV_len]; omega)
    exact ⟨_, e, hb, fun j u hu => by rw [addr_add]; exact hc j u hu⟩⟩
theorem WRow.of_own {base : Nat} {e : TypeId} {n c : Nat} (h : w.ownsRow base e 2 (.slice A n c) n (rowV l)) : WRow w A l := fun hp => by
  have hl := h.1
  obtain ⟨g, cap, hv, _, hlt⟩ := h.form (by omega)
  have hA : A = some ⟨g, 0, none⟩ := by injection hv
  subst hA
  refine ⟨g, 0, rfl, hlt, fun j u hu => ?_⟩
  have := h.cells (g := g) rfl j u hu
  rwa [addr_add] at this
theorem WRow.slice {base : Nat} {e : TypeId} {v : Value} {n : Nat} (h : w.ownsRow base e 2 v n (rowV l)) : ∃ A c, v = .slice A n c ∧ n ≤ c ∧ WRow w A l := by
  have h' := h
  obtain ⟨_, ⟨rfl, rfl⟩ | ⟨g, cap, cur, rfl, _, _, hc, _⟩⟩ := h
  · exact ⟨none, 0, rfl, Nat.le_refl _, WRow.of_own h'⟩
  · exact ⟨_, cap, rfl, hc, WRow.of_own h'⟩
theorem below_grown {B : Nat} {a w w' : World} {row : Option Nat} (h : Below B a w) (hg : w.grownBy w' row) (hB : B ≤ w.heap.size) (hr : ∀ g, row = some g → B ≤ g) : Below B a w' :=
  h.trans ⟨hg.os, hg.tape, hg.output, hg.size, fun k hk => hg.block k (by omega) (fun e => by have := hr k e.symm; omega)⟩
theorem below_grown' {B : Nat} {a w w' : World} {v : Value} {n : Nat} {e : TypeId} {xs : List Value} {base size : Nat} (h : Below B a w) (hg : w.grownBy w' v.ownBlock) (ho : w.ownsRow base e size v n xs) (hB : B ≤ w.heap.size) (hbase : B ≤ base) : Below B a w' := by
  refine below_grown h hg hB fun g hg' => ?_
  rcases ho.2 with ⟨rfl, _⟩ | ⟨g', cap, cur, rfl, hb, _⟩
  · simp [Value.ownBlock] at hg'
  · simp only [Value.ownBlock, Option.some.injEq] at hg'
    omega
end

end Go.Proofs.Ytodaknidbdicdaa
