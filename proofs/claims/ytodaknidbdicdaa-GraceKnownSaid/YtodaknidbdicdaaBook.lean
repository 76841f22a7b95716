/-
  The statement's book of records, as it lies.
-/
import Derived.Test.YtodaknidbdicdaaBookP
import Derived.Test.YtodaknidbdicdaaRefA
import Derived.Deep.AppendSrc
import Derived.WalkKit
import Derived.Deep.DeepMust
import Derived.WalkSpells
import Derived.WalkLawsBesides
import Derived.Handy
import Derived.Lib.Hide
import Derived.Deep.QuietTactic
import Derived.BigQuiet
namespace Go.Proofs.Ytodaknidbdicdaa
open Go.RowKit

def recA (r : Rec) : Array Value := #[.int .i64 r.id, .bool (r.ins 0), .bool (r.ins 1), .bool (r.ins 2), .bool (r.ins 3), .bool (r.ins 4), .bool (r.ins 5), .bool (r.ins 6), .bool (r.ins 7), .bool (r.sil 0), .bool (r.sil 1), .bool (r.sil 2), .bool (r.sil 3), .bool (r.sil 4), .bool (r.sil 5), .bool (r.sil 6), .bool (r.sil 7)]
theorem recA_ins (r : Rec) {m : Nat} (hm : m < 3) (x : Bool) : (recA r).setIfInBounds (1 + m) (.bool x) = recA { r with ins := upd r.ins m x } := by
  match m, hm with
  | 0, _ | 1, _ | 2, _ => rfl
theorem recA_sil (r : Rec) {m : Nat} (hm : m < 3) (x : Bool) : (recA r).setIfInBounds (9 + m) (.bool x) = recA { r with sil := upd r.sil m x } := by
  match m, hm with
  | 0, _ | 1, _ | 2, _ => rfl
theorem recA_one (r : Rec) : ∀ u ∈ (recA r).toList, u.oneCell' = true := fun u hu => by
  unfold recA at hu
  simp only [List.mem_cons, List.not_mem_nil, or_false] at hu
  rcases hu with rfl | rfl | rfl | rfl | rfl | rfl | rfl | rfl | rfl | rfl | rfl | rfl | rfl | rfl | rfl | rfl | rfl <;> rfl

/-- From off on block g has the records rs, and room for c. -/
structure RecAt (w : World) (g off n c : Nat) (rs : List Rec) : Prop where
  len : rs.length = n
  le : n ≤ c
  blk : ∃ cs, Blk w g 64 cs ∧ off + c * 17 ≤ cs.size ∧ ∀ (k : Nat) (r : Rec), rs[k]? = some r → ∀ j, j < 17 → cs[off + k * 17 + j]? = (recA r)[j]?
section
variable {w w' : World} {g off n c : Nat} {rs : List Rec}
theorem RecAt.lt (h : RecAt w g off n c rs) : g < w.heap.size := by obtain ⟨cs, h1, -⟩ := h.blk; exact h1.lt
theorem RecAt.frz (h : RecAt w g off n c rs) (i : Nat) : w.frozen? ⟨g, i, none⟩ = false := by obtain ⟨cs, h1, -⟩ := h.blk; exact h1.frozen i
theorem RecAt.cell (h : RecAt w g off n c rs) {k : Nat} {r : Rec} (hk : rs[k]? = some r) {j : Nat} (hj : j < 17) : w.cell? ⟨g, off + k * 17 + j, none⟩ = (recA r)[j]? := by
  obtain ⟨cs, h1, -, h3⟩ := h.blk
  rw [h1.cell]; exact h3 k r hk j hj
theorem RecAt.heap (h : RecAt w g off n c rs) (hb : w'.heap[g]? = w.heap[g]?) : RecAt w' g off n c rs := by
  obtain ⟨cs, h1, h2, h3⟩ := h.blk
  exact ⟨h.len, h.le, cs, hb.trans h1, h2, h3⟩
theorem RecAt.set (h : RecAt w g off n c rs) {k : Nat} {r r' : Rec} (hk : rs[k]? = some r) {m : Nat} {u : Value} (hm : m < 17) (hr : (recA r).setIfInBounds m u = recA r') : RecAt (w.setCell ⟨g, off + k * 17 + m, none⟩ u) g off n c (rs.set k r') := by
  obtain ⟨cs, h1, h2, h3⟩ := h.blk
  have hkl := (List.getElem?_eq_some_iff.1 hk).1
  have hkn : k < n := by have := h.len; omega
  have hkc : (k + 1) * 17 ≤ c * 17 := Nat.mul_le_mul_right _ (by have := h.le; omega)
  refine ⟨by rw [List.length_set]; exact h.len, h.le, _, h1.set_ _ u, by rw [Array.size_setIfInBounds]; exact h2, fun i q hi j hj => ?_⟩
  rw [Array.getElem?_setIfInBounds]
  rw [List.getElem?_set] at hi
  by_cases e : k = i
  · subst e
    rw [if_pos rfl, if_pos hkl] at hi
    injection hi with hi
    subst hi
    rw [← hr, Array.getElem?_setIfInBounds]
    by_cases ej : m = j
    · subst ej
      rw [if_pos rfl, if_pos rfl, if_pos (by omega), if_pos (by show m < 17; exact hm)]
    · rw [if_neg (by omega), if_neg ej]
      exact h3 k r hk j hj
  · rw [if_neg e] at hi
    rw [if_neg (by omega)]
    exact h3 i q hi j hj
theorem RecAt.tail {r : Rec} (h : RecAt w g off n c (r :: rs)) : RecAt w g (off + 17) (n - 1) (c - 1) rs := by
  obtain ⟨cs, h1, h2, h3⟩ := h.blk
  have hl := h.len
  have hle := h.le
  rw [List.length_cons] at hl
  refine ⟨by omega, by omega, cs, h1, by omega, fun k q hk j hj => ?_⟩
  have := h3 (k + 1) q (by rw [List.getElem?_cons_succ]; exact hk) j hj
  rw [← this]
  congr 1
  omega
end

def RecRow (w : World) (v : Value) (β : Option Nat) (rs : List Rec) : Prop :=
  (v = .slice none 0 0 ∧ β = none ∧ rs = []) ∨ ∃ g off n c, v = .slice (some ⟨g, off, none⟩) n c ∧ β = some g ∧ RecAt w g off n c rs
section
variable {w w' : World} {v : Value} {β : Option Nat} {rs : List Rec}
theorem RecRow.nil (w : World) : RecRow w (.slice none 0 0) none [] := .inl ⟨rfl, rfl, rfl⟩
theorem RecRow.heap (h : RecRow w v β rs) (hb : ∀ g, β = some g → w'.heap[g]? = w.heap[g]?) : RecRow w' v β rs := by
  rcases h with h | ⟨g, off, n, c, h1, h2, h3⟩
  · exact .inl h
  · exact .inr ⟨g, off, n, c, h1, h2, h3.heap (hb g h2)⟩
theorem RecRow.lt (h : RecRow w v β rs) : ∀ g, β = some g → g < w.heap.size := fun g hg => by
  rcases h with ⟨-, h, -⟩ | ⟨g', off, n, c, h1, h2, h3⟩
  · rw [h] at hg; cases hg
  · rw [h2] at hg; injection hg with hg; subst hg; exact h3.lt
theorem RecRow.shape (h : RecRow w v β rs) : ∃ A c, v = .slice A rs.length c := by
  rcases h with ⟨rfl, -, rfl⟩ | ⟨g, off, n, c, rfl, -, h3⟩
  · exact ⟨none, 0, rfl⟩
  · rw [h3.len]; exact ⟨_, _, rfl⟩
theorem RecRow.tail {r : Rec} {g off n c : Nat} (h : RecAt w g off n c (r :: rs)) : RecRow w (.slice (if c = 1 then some ⟨g, off, none⟩ else some ⟨g, off + 17, none⟩) (n - 1) (c - 1)) (some g) rs := by
  have h' := h.tail
  by_cases hc : c = 1
  · subst hc
    rw [if_pos rfl]
    refine .inr ⟨g, off, n - 1, 1 - 1, rfl, rfl, h'.len, h'.le, ?_⟩
    obtain ⟨cs, h1, h2, h3⟩ := h.blk
    have hr : rs = [] := List.eq_nil_of_length_eq_zero (by have := h'.len; have := h'.le; omega)
    subst hr
    exact ⟨cs, h1, by omega, fun k q hk => by simp at hk⟩
  · rw [if_neg hc]
    exact .inr ⟨g, off + 17, n - 1, c - 1, rfl, rfl, h'⟩
end

structure BookAt (w : World) (bb : Nat) (ws : List Nat) (D : Nat → Int) (R : Nat → List Rec) : Prop where
  ex : ∃ (V : Nat → Value) (β : Nat → Option Nat), Blk w bb 33 #[.int .i64 (D 0), .int .i64 (D 1), .int .i64 (D 2), V 0, V 1, V 2] ∧ (∀ c, c < 3 → RecRow w (V c) (β c) (R c)) ∧
    (∀ c d g, c < 3 → d < 3 → β c = some g → β d = some g → c = d) ∧ (∀ c, c < 3 → ∀ g, β c = some g → g ∈ ws)
  mem : bb ∈ ws
  lts : ∀ g ∈ ws, g < w.heap.size
section
variable {w w' : World} {bb : Nat} {ws : List Nat} {D : Nat → Int} {R : Nat → List Rec}
theorem BookAt.lt (h : BookAt w bb ws D R) : bb < w.heap.size := h.lts _ h.mem
theorem BookAt.frz (h : BookAt w bb ws D R) (i : Nat) : w.frozen? ⟨bb, i, none⟩ = false := by obtain ⟨V, β, h1, -⟩ := h.ex; exact h1.frozen i
theorem BookAt.keep (h : BookAt w bb ws D R) (hz : w.heap.size ≤ w'.heap.size) (hk : ∀ g ∈ ws, w'.heap[g]? = w.heap[g]?) : BookAt w' bb ws D R := by
  obtain ⟨V, β, h1, h2, h3, h4⟩ := h.ex
  exact ⟨⟨V, β, (hk _ h.mem).trans h1, fun c hc => (h2 c hc).heap fun g hg => hk g (h4 c hc g hg), h3, h4⟩, h.mem, fun g hg => Nat.lt_of_lt_of_le (h.lts g hg) hz⟩
theorem BookAt.below (h : BookAt w bb ws D R) (hb : Below w.heap.size w w') : BookAt w' bb ws D R := h.keep hb.size fun g hg => hb.block g (h.lts g hg)
theorem BookAt.drew (h : BookAt w bb ws D R) : BookAt w.drew bb ws D R := h.below (Below.refl _ _).drew
theorem BookAt.alloc (h : BookAt w bb ws D R) (o : Obj) : BookAt (w.alloc o) bb ws D R := h.below ((Below.refl _ _).alloc (Nat.le_refl _) o)
theorem BookAt.one {b : Nat} (h : BookAt w bb ws D R) (hT : One b w w') (hb : b ∉ ws) : BookAt w' bb ws D R := h.keep hT.size fun g hg => hT.block g (h.lts g hg) (fun e => hb (by rw [← e]; exact hg))
theorem BookAt.congr {R' : Nat → List Rec} (h : BookAt w bb ws D R) (hR : ∀ c, c < 3 → R' c = R c) : BookAt w bb ws D R' := by
  obtain ⟨V, β, h1, h2, h3, h4⟩ := h.ex
  exact ⟨⟨V, β, h1, fun c hc => by rw [hR c hc]; exact h2 c hc, h3, h4⟩, h.mem, h.lts⟩
theorem BookAt.cD (h : BookAt w bb ws D R) {k : Nat} (hk : k < 3) : w.cell? ⟨bb, k, none⟩ = some (.int .i64 (D k)) := by
  obtain ⟨V, β, h1, -⟩ := h.ex
  rw [h1.cell]
  match k, hk with
  | 0, _ | 1, _ | 2, _ => rfl
theorem BookAt.setD (h : BookAt w bb ws D R) {k : Nat} (hk : k < 3) (x : Int) : BookAt (w.setCell ⟨bb, k, none⟩ (.int .i64 x)) bb ws (upd D k x) R := by
  obtain ⟨V, β, h1, h2, h3, h4⟩ := h.ex
  refine ⟨⟨V, β, ?_, fun c hc => (h2 c hc).heap fun g hg => Below.heap_setCell w _ _ g fun e => ?_, h3, h4⟩, h.mem, fun g hg => by simpa [World.setCell] using h.lts g hg⟩
  · have h5 := h1.set_ k (.int .i64 x)
    match k, hk with
    | 0, _ | 1, _ | 2, _ => exact h5
  · rcases h2 c hc with ⟨-, h6, -⟩ | ⟨g', off, n, cc, -, h6, h7⟩
    · rw [h6] at hg; cases hg
    · rw [h6] at hg
      injection hg with hg
      obtain ⟨cs, h8, -⟩ := h7.blk
      unfold Blk at h1 h8
      rw [hg, show g = bb from e, h1] at h8
      simp at h8
/-- Row k: what lies there; and what may be put there. -/
theorem BookAt.cV (h : BookAt w bb ws D R) {k : Nat} (hk : k < 3) : ∃ v β, w.cell? ⟨bb, 3 + k, none⟩ = some v ∧ RecRow w v β (R k) ∧ (∀ g, β = some g → g ∈ ws ∧ g ≠ bb) ∧
    (∀ (w' : World) (rs' : List Rec), w.heap.size ≤ w'.heap.size → (∀ i, i < w.heap.size → some i ≠ β → w'.heap[i]? = w.heap[i]?) → RecRow w' v β rs' → BookAt w' bb ws D (upd R k rs')) ∧
    (∀ (w' : World) (v' : Value) (β' : Option Nat) (rs' : List Rec) (ws' : List Nat), w.heap.size ≤ w'.heap.size → (∀ i, i < w.heap.size → some i ≠ β → w'.heap[i]? = w.heap[i]?) → RecRow w' v' β' rs' → (β' = β ∨ ∃ g, β' = some g ∧ w.heap.size ≤ g) → (∀ g, β' = some g → g ∈ ws') →
      (∀ g ∈ ws, g ∈ ws') → (∀ g ∈ ws', g < w'.heap.size) → BookAt (w'.setCell ⟨bb, 3 + k, none⟩ v') bb ws' D (upd R k rs')) := by
  obtain ⟨V, β, h1, h2, h3, h4⟩ := h.ex
  have hne : ∀ c, c < 3 → ∀ g, β c = some g → g ≠ bb := fun c hc g hg e => by
    rcases h2 c hc with ⟨-, h6, -⟩ | ⟨g', off, n, cc, -, h6, h7⟩
    · rw [h6] at hg; cases hg
    · rw [h6] at hg
      injection hg with hg
      obtain ⟨cs, h8, -⟩ := h7.blk
      unfold Blk at h1 h8
      rw [hg, e, h1] at h8
      simp at h8
  have hbb : some bb ≠ β k := fun e => hne k hk bb e.symm rfl
  have far : ∀ (w' : World), (∀ i, i < w.heap.size → some i ≠ β k → w'.heap[i]? = w.heap[i]?) → ∀ c, c < 3 → c ≠ k → RecRow w' (V c) (β c) (R c) := fun w' hf c hc hck =>
    (h2 c hc).heap fun g hg => hf g ((h2 c hc).lt g hg) fun e => hck (h3 c k g hc hk hg e.symm)
  refine ⟨V k, β k, ?_, h2 k hk, fun g hg => ⟨h4 k hk g hg, hne k hk g hg⟩, fun w' rs' hz hf hr => ?_, fun w' v' β' rs' ws' hz hf hr hb' hw hs hl => ?_⟩
  · rw [h1.cell]
    match k, hk with
    | 0, _ | 1, _ | 2, _ => rfl
  · refine ⟨⟨V, β, (hf bb h.lt hbb).trans h1, fun c hc => ?_, h3, h4⟩, h.mem, fun g hg => Nat.lt_of_lt_of_le (h.lts g hg) hz⟩
    by_cases e : c = k
    · subst e; rw [upd_same]; exact hr
    · rw [upd_ne _ _ e]; exact far w' hf c hc e
  · have hb1 : Blk w' bb 33 _ := (hf bb h.lt hbb).trans h1
    have hn' : ∀ g, β' = some g → g ≠ bb := fun g hg => by
      rcases hb' with e | ⟨g', e, hge⟩
      · exact hne k hk g (by rw [← e]; exact hg)
      · rw [e] at hg
        injection hg with hg
        have := h.lt
        omega
    have put : ∀ c, c < 3 → RecRow (w'.setCell ⟨bb, 3 + k, none⟩ v') (upd V k v' c) (upd β k β' c) (upd R k rs' c) := fun c hc => by
      by_cases e : c = k
      · subst e
        rw [upd_same, upd_same, upd_same]
        exact hr.heap fun g hg => Below.heap_setCell w' _ _ g (hn' g hg)
      · rw [upd_ne _ _ e, upd_ne _ _ e, upd_ne _ _ e]
        exact (far w' hf c hc e).heap fun g hg => Below.heap_setCell w' _ _ g (hne c hc g hg)
    refine ⟨⟨upd V k v', upd β k β', ?_, put, fun c d g hc hd e1 e2 => ?_, fun c hc g hg => ?_⟩, hs _ h.mem, fun g hg => by simpa [World.setCell] using hl g hg⟩
    · have h5 := hb1.set_ (3 + k) v'
      match k, hk with
      | 0, _ | 1, _ | 2, _ => exact h5
    · by_cases ec : c = k
      · by_cases ed : d = k
        · omega
        · subst ec
          rw [upd_same] at e1
          rw [upd_ne _ _ ed] at e2
          rcases hb' with e | ⟨g', e, hge⟩
          · exact h3 c d g hc hd (by rw [← e]; exact e1) e2
          · rw [e] at e1
            injection e1 with e1
            have := (h2 d hd).lt g e2
            omega
      · rw [upd_ne _ _ ec] at e1
        by_cases ed : d = k
        · subst ed
          rw [upd_same] at e2
          rcases hb' with e | ⟨g', e, hge⟩
          · exact h3 c d g hc hd e1 (by rw [← e]; exact e2)
          · rw [e] at e2
            injection e2 with e2
            have := (h2 c hc).lt g e1
            omega
        · rw [upd_ne _ _ ed] at e2
          exact h3 c d g hc hd e1 e2
    · by_cases ec : c = k
      · subst ec
        rw [upd_same] at hg
        exact hw g hg
      · rw [upd_ne _ _ ec] at hg
        exact hs g (h4 c hc g hg)
/-- A book without records. -/
theorem BookAt.new (w : World) : BookAt (w.alloc (.cells #[.int .i64 0, .int .i64 0, .int .i64 0, .slice none 0 0, .slice none 0 0, .slice none 0 0] 33)) w.heap.size [w.heap.size] (fun _ => 0) (fun _ => []) :=
  ⟨⟨fun _ => .slice none 0 0, fun _ => none, Blk.new _ _ _, fun _ _ => RecRow.nil _, (fun _ _ _ _ _ h => by cases h), (fun _ _ _ h => by cases h)⟩, List.mem_singleton.2 rfl, fun g hg => by rw [List.mem_singleton.1 hg, World.size_alloc]; exact Nat.lt_succ_self _⟩
end

end Go.Proofs.Ytodaknidbdicdaa
