/-
  Rows of steps as they lie: four cells each.
-/
import Derived.Test.YtnbeofbkfopehaaDos
import Derived.Test.YtnbeofbkfopehaaReads
namespace Go.Proofs.Ytnbeofbkfopehaa
open Go.RowKit

def doV (d : DoR) : List Value := [.int .i64 d.k, .int .i64 d.x, .int .i64 d.n, .slice d.pa d.pp.length d.pc]
def dosV : List DoR → List Value
  | [] => []
  | d :: r => .int .i64 d.k :: .int .i64 d.x :: .int .i64 d.n :: .slice d.pa d.pp.length d.pc :: dosV r
theorem dosV_len : ∀ l : List DoR, (dosV l).length = l.length * 4
  | [] => rfl
  | x :: r => by simp only [dosV, List.length_cons, dosV_len r]; omega
theorem dosV_append (a : List DoR) : ∀ b : List DoR, dosV (a ++ b) = dosV a ++ dosV b := by
  induction a with
  | nil => intro b; rfl
  | cons x r ih => intro b; simp only [List.cons_append, dosV, ih]
theorem dosV_at : ∀ {l : List DoR} {k : Nat} (h : k < l.length), (dosV l)[k * 4]? = some (.int .i64 l[k].k) ∧ (dosV l)[k * 4 + 1]? = some (.int .i64 l[k].x) ∧ (dosV l)[k * 4 + 2]? = some (.int .i64 l[k].n) ∧ (dosV l)[k * 4 + 3]? = some (.slice l[k].pa l[k].pp.length l[k].pc)
  | [], k, h => by simp at h
  | x :: r, 0, _ => ⟨rfl, rfl, rfl, rfl⟩
  | x :: r, k + 1, h => by
    have ih := dosV_at (l := r) (k := k) (by simpa using h)
    rw [show (k + 1) * 4 = k * 4 + 1 + 1 + 1 + 1 by omega, show k * 4 + 1 + 1 + 1 + 1 + 1 = (k * 4 + 1) + 1 + 1 + 1 + 1 by omega, show k * 4 + 1 + 1 + 1 + 1 + 2 = (k * 4 + 2) + 1 + 1 + 1 + 1 by omega, show k * 4 + 1 + 1 + 1 + 1 + 3 = (k * 4 + 3) + 1 + 1 + 1 + 1 by omega]
    simp only [dosV, List.getElem?_cons_succ, List.getElem_cons_succ]
    exact ih
theorem dosV_one : ∀ {l : List DoR}, ∀ u ∈ dosV l, u.oneCell' = true
  | [], u, h => by cases h
  | x :: r, u, h => by
    simp only [dosV, List.mem_cons] at h
    rcases h with rfl | rfl | rfl | rfl | h
    · rfl
    · rfl
    · rfl
    · rfl
    · exact dosV_one u h
/-- New steps, just laid as a block of their own. -/
theorem dos_reads {w : World} {g : Nat} {t : TypeId} {cs : Array Value} (h : Blk w g t cs) {l : List DoR} {n : Nat} (hn : l.length = n) (e : cs.toList = dosV l) : Reads w w.heap.size 4 (some ⟨g, 0, none⟩) n (dosV l) :=
  ⟨by rw [dosV_len, hn], fun _ => ⟨_, rfl, h.lt, fun j u hu => by rw [addr_add, Nat.zero_add, h.cell, ← Array.getElem?_toList, e]; exact hu⟩⟩
theorem Dos.of_own {w : World} {base n : Nat} {v : Value} {l : List DoR} (h : w.ownsRow base 29 4 v n (dosV l)) (hn : l.length = n) (hl : ∀ d ∈ l, Row w d.pa (intsV d.pp) ∧ d.pp.length ≤ 9) :
    ∃ A c, v = .slice A n c ∧ Dos w A n (fun i => l.getD i ⟨0, 0, 0, none, [], 0⟩) ∧ ∀ i, i < n → (l.getD i ⟨0, 0, 0, none, [], 0⟩).pp.length * 8 ≤ 140737488351232 := by
  subst hn
  have hg : ∀ i, (hi : i < l.length) → l.getD i ⟨0, 0, 0, none, [], 0⟩ = l[i] := fun i hi => by rw [List.getD_eq_getElem?_getD, List.getElem?_eq_getElem hi]; rfl
  have hs : ∀ i, i < l.length → (l.getD i ⟨0, 0, 0, none, [], 0⟩).pp.length * 8 ≤ 140737488351232 := fun i hi => by
    rw [hg i hi]
    have := (hl _ (List.getElem_mem hi)).2
    omega
  have hv : ∃ A c, v = .slice A l.length c := by
    rcases Nat.eq_zero_or_pos l.length with h0 | h0
    · rcases h.2 with ⟨rfl, _⟩ | ⟨g, cap, cur, rfl, _⟩
      · exact ⟨none, 0, by rw [h0]⟩
      · exact ⟨_, _, rfl⟩
    · obtain ⟨g, cap, hv, _, _⟩ := h.form h0
      exact ⟨_, _, hv⟩
  obtain ⟨A, c, rfl⟩ := hv
  refine ⟨A, c, rfl, fun hp => ?_, hs⟩
  obtain ⟨g, cap, hv, _, hlt⟩ := h.form hp
  have hA : A = some ⟨g, 0, none⟩ := by injection hv
  subst hA
  refine ⟨g, 0, rfl, hlt, fun i hi => ?_⟩
  have hc := h.cells (g := g) rfl
  obtain ⟨h0, h1, h2, h3⟩ := dosV_at hi
  have k0 := hc _ _ h0
  have k1 := hc _ _ h1
  have k2 := hc _ _ h2
  have k3 := hc _ _ h3
  rw [addr_add] at k0 k1 k2 k3
  obtain ⟨r1, r2⟩ := hl _ (List.getElem_mem hi)
  show w.cell? _ = some (.int .i64 (l.getD i ⟨0, 0, 0, none, [], 0⟩).k) ∧ w.cell? _ = some (.int .i64 (l.getD i ⟨0, 0, 0, none, [], 0⟩).x) ∧ w.cell? _ = some (.int .i64 (l.getD i ⟨0, 0, 0, none, [], 0⟩).n) ∧ w.cell? _ = some (.slice (l.getD i ⟨0, 0, 0, none, [], 0⟩).pa (l.getD i ⟨0, 0, 0, none, [], 0⟩).pp.length (l.getD i ⟨0, 0, 0, none, [], 0⟩).pc) ∧ Row w (l.getD i ⟨0, 0, 0, none, [], 0⟩).pa (intsV (l.getD i ⟨0, 0, 0, none, [], 0⟩).pp) ∧ (l.getD i ⟨0, 0, 0, none, [], 0⟩).pp.length ≤ maxLen
  rw [hg i hi]
  exact ⟨k0, k1, k2, k3, r1, by unfold maxLen; omega⟩

end Go.Proofs.Ytnbeofbkfopehaa
