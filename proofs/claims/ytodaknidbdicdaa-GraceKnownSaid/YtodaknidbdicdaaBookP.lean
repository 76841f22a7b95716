/-
  The statement's book of records, and the machine: plain Lean.
-/
import Derived.Test.YtodaknidbdicdaaPlain
namespace Go.Proofs.Ytodaknidbdicdaa

structure Rec where
  id : Int
  ins : Nat → Bool
  sil : Nat → Bool

def unlockR (c : Nat) (r : Rec) : Rec := { r with ins := upd r.ins c false }
def reportR (c : Nat) (r : Rec) : Rec := { r with sil := upd r.sil c false }
def newR (i : Int) (D : Nat → Int) : Rec := ⟨i, fun k => decide (k < 3) && decide (0 < D k), fun k => decide (k < 3)⟩

structure RecOK (G : Gr) (t : Wt) (r : Rec) : Prop where
  id : r.id = t.id
  ins : ∀ k, k < 3 → r.ins k = true → 0 < G.D k
  old : t.at_ ≤ G.E → ∀ k, k < 3 → r.ins k = false ∧ r.sil k = false
  now : t.at_ = G.E + 1 → ∀ k, k < 3 → G.N k = false → r.ins k = false ∧ r.sil k = false
  go : (G.E : Int) < t.at_ → G.go = true
  le : t.at_ ≤ G.E + 2

/-- The book's rows are the machine's. -/
def Rel (G : Gr) (R : Nat → List Rec) : Prop := ∀ c, c < 3 → (R c).length = (G.L c).length ∧ ∀ (j : Nat) (t : Wt) (r : Rec), (G.L c)[j]? = some t → (R c)[j]? = some r → RecOK G t r

section
variable {G G1 : Gr} {R : Nat → List Rec} {t : Wt} {r : Rec}
theorem Rel.mono (h : Rel G R) (hL : G1.L = G.L) (hr : ∀ t r, RecOK G t r → RecOK G1 t r) : Rel G1 R := fun c hc => by
  rw [hL]
  exact ⟨(h c hc).1, fun j t r ht hr' => hr t r ((h c hc).2 j t r ht hr')⟩
theorem Rel.map (h : Rel G R) (hL : G1.L = G.L) {f : Rec → Rec} (hr : ∀ t r, RecOK G t r → RecOK G1 t (f r)) : Rel G1 (fun c => (R c).map f) := fun c hc => by
  rw [hL]
  refine ⟨by rw [List.length_map]; exact (h c hc).1, fun j t r ht hr' => ?_⟩
  rw [List.getElem?_map] at hr'
  obtain ⟨r0, h0, rfl⟩ := Option.map_eq_some_iff.1 hr'
  exact hr t r0 ((h c hc).2 j t r0 ht h0)
theorem Rel.lock (h : Rel G R) (k : Nat) : Rel (lockG G k).1 R := by
  unfold lockG
  by_cases h8 : G.D k = 8
  · rw [decide_eq_true h8]; exact h
  · rw [decide_eq_false h8]
    refine h.mono rfl fun t r q => ⟨q.id, fun j hj hi => ?_, q.old, q.now, q.go, q.le⟩
    show 0 < upd G.D k (G.D k + 1) j
    have := q.ins j hj hi
    by_cases e : j = k
    · subst e; rw [upd_same]; omega
    · rw [upd_ne _ _ e]; exact this
theorem Rel.unlock (h : Rel G R) {k : Nat} (h1 : 0 < G.D k - 1) : Rel { G with D := upd G.D k (G.D k - 1) } R :=
  h.mono rfl fun t r q => ⟨q.id, fun j hj hi => by
    show 0 < upd G.D k (G.D k - 1) j
    have := q.ins j hj hi
    by_cases e : j = k
    · subst e; rw [upd_same]; omega
    · rw [upd_ne _ _ e]; exact this, q.old, q.now, q.go, q.le⟩
theorem upd_false {f : Nat → Bool} {k j : Nat} (h : f j = false) : upd f k false j = false := by
  by_cases e : j = k
  · subst e; exact upd_same _ _ _
  · rw [upd_ne _ _ e]; exact h
theorem Rel.unlocked (h : Rel G R) {k : Nat} (_ : G.D k - 1 = 0) : Rel { G with D := upd G.D k (G.D k - 1) } (fun c => (R c).map (unlockR k)) :=
  h.map (G1 := { G with D := upd G.D k (G.D k - 1) }) (f := unlockR k) rfl fun t r q => ⟨q.id, fun j hj hi => by
    show 0 < upd G.D k (G.D k - 1) j
    have hi' : upd r.ins k false j = true := hi
    by_cases e : j = k
    · subst e; rw [upd_same] at hi'; cases hi'
    · rw [upd_ne _ _ e]; rw [upd_ne _ _ e] at hi'; exact q.ins j hj hi', fun a j hj => ⟨upd_false (q.old a j hj).1, (q.old a j hj).2⟩, fun a j hj b => ⟨upd_false (q.now a j hj b).1, (q.now a j hj b).2⟩, q.go, q.le⟩
theorem Rel.report (h : Rel G R) (k : Nat) : Rel G (fun c => (R c).map (reportR k)) :=
  h.map (f := reportR k) rfl fun _ _ q => ⟨q.id, q.ins, fun a j hj => ⟨(q.old a j hj).1, upd_false (q.old a j hj).2⟩, fun a j hj b => ⟨(q.now a j hj b).1, upd_false (q.now a j hj b).2⟩, q.go, q.le⟩
theorem Rel.need (h : Rel G R) {k : Nat} (hk : G.D k = 0) : Rel (needG G k) (fun c => (R c).map (reportR k)) :=
  h.map (G1 := needG G k) (f := reportR k) rfl fun t r q => ⟨q.id, q.ins, fun a j hj => ⟨(q.old a j hj).1, upd_false (q.old a j hj).2⟩, fun a j hj b => by
    have b' : upd G.N k false j = false := b
    by_cases e : j = k
    · subst e
      refine ⟨?_, upd_same _ _ _⟩
      show r.ins j = false
      cases hi : r.ins j
      · rfl
      · have := q.ins j hj hi; omega
    · rw [upd_ne _ _ e] at b'
      exact ⟨(q.now a j hj b').1, upd_false (q.now a j hj b').2⟩, q.go, q.le⟩
/-- No report is waited for: what waits for the next period does so no more. -/
theorem RecOK.ended (q : RecOK G t r) (hn : ∀ k, k < 3 → G.N k = false) (hg : t.at_ ≤ G.E + 1) : RecOK (endG G) t r :=
  ⟨q.id, q.ins, fun a j hj => by
    have a' : t.at_ ≤ ((G.E + 1 : Nat) : Int) := a
    rcases (by omega : t.at_ ≤ G.E ∨ t.at_ = G.E + 1) with h1 | h1
    · exact q.old h1 j hj
    · exact q.now h1 j hj (hn j hj), fun a => by
    have a' : t.at_ = ((G.E + 1 : Nat) : Int) + 1 := a
    omega, fun a => by
    have a' : ((G.E + 1 : Nat) : Int) < t.at_ := a
    omega, by
    show t.at_ ≤ ((G.E + 1 : Nat) : Int) + 2
    omega⟩
theorem RecOK.begun (q : RecOK G t r) (hC : G.C = 3) (hn : ∀ k, k < 3 → G.N k = false) : RecOK (begG (endG G)) t r := by
  have hq := q.le
  refine ⟨q.id, q.ins, fun a j hj => ?_, fun a j hj b => ?_, fun _ => rfl, ?_⟩
  · have a' : t.at_ ≤ ((G.E + 1 : Nat) : Int) := a
    rcases (by omega : t.at_ ≤ G.E ∨ t.at_ = G.E + 1) with h1 | h1
    · exact q.old h1 j hj
    · exact q.now h1 j hj (hn j hj)
  · have b' : (decide (j < G.C) || G.N j) = false := b
    rw [hC, decide_eq_true hj] at b'
    cases b'
  · show t.at_ ≤ ((G.E + 1 : Nat) : Int) + 2
    omega
theorem last_ge {l : List Wt} (h : errC l = 0) {E : Nat} {j : Nat} {t : Wt} (ht : l[j]? = some t) (hE : (E : Int) < t.at_) : lastB E l = true := by
  obtain ⟨hj, rfl⟩ := List.getElem?_eq_some_iff.1 ht
  have hp : 0 < l.length := by omega
  have h1 : lastB E l = decide ((E : Int) < (l[l.length - 1]'(by omega)).at_) := by
    unfold lastB
    rw [List.getLast?_eq_getElem?, List.getElem?_eq_getElem (by omega)]
  rw [h1, decide_eq_true_iff]
  have hk := (errC_zero.1 h).2
  have h3 : okF 1 (l.drop j) = true := okF_drop j hk hk
  rw [okF_at hj, Bool.and_eq_true] at h3
  have h4 := h3.2
  rcases (by omega : j = l.length - 1 ∨ j + 1 ≤ l.length - 1) with e | e
  · subst e; exact hE
  · have h5 := okF_mono h4 (l.length - 1 - (j + 1)) (by rw [List.length_drop]; omega)
    rw [List.getElem_drop] at h5
    have e2 : l[j + 1 + (l.length - 1 - (j + 1))]'(by omega) = l[l.length - 1]'(by omega) := by congr 1; omega
    rw [e2] at h5
    omega
theorem Rel.quiet (h : Rel G R) (hI : Inv G) (hC : G.C = 3) {k : Nat} (hk : G.D k = 0) : Rel (quietG G k).1 (fun c => (R c).map (reportR k)) := by
  unfold quietG
  rw [decide_eq_false (by omega), cond_false]
  cases hg : G.go
  · exact h.report k
  · have h1 := h.need hk
    show Rel (bif needsG (needG G k) then (needG G k, (0 : Int)) else _).1 _
    cases hn : needsG (needG G k)
    · have hn3 : ∀ j, j < 3 → (needG G k).N j = false := fun j hj => anyU_no hn j (by show j < G.C; omega)
      rw [cond_false]
      cases hl : laterG (endG (needG G k))
      · rw [cond_false]
        intro c hc
        refine ⟨(h1 c hc).1, fun j t r ht hr => ((h1 c hc).2 j t r ht hr).ended hn3 ?_⟩
        have h2 : lastB (G.E + 1) (G.L c) = false := anyU_no (n := G.C) hl c (by omega)
        rcases (by omega : ((G.E + 1 : Nat) : Int) < t.at_ ∨ t.at_ ≤ ((G.E + 1 : Nat) : Int)) with h3 | h3
        · rw [last_ge (hI.l c) ht h3] at h2; cases h2
        · show t.at_ ≤ (G.E : Int) + 1
          omega
      · rw [cond_true]
        exact h1.mono rfl fun t r q => q.begun hC hn3
    · rw [cond_true]
      exact h1
theorem Rel.cal (h : Rel G R) : Rel (calG G).1 R := by
  unfold calG
  cases hg : G.go
  · refine h.mono rfl fun t r q => ⟨q.id, q.ins, q.old, fun a => ?_, fun _ => rfl, q.le⟩
    have a' : t.at_ = (G.E : Int) + 1 := a
    have := q.go (by omega)
    rw [hg] at this
    cases this
  · exact h
theorem cal_new (hC : G.C = 3) (i : Int) : RecOK (calG G).1 ⟨i, (calG G).2⟩ (newR i G.D) := by
  unfold calG newR
  cases hg : G.go
  · refine ⟨rfl, fun j hj hi => ?_, fun a => ?_, fun a j hj b => ?_, fun _ => rfl, ?_⟩
    · have hi' : (decide (j < 3) && decide (0 < G.D j)) = true := hi
      rw [Bool.and_eq_true] at hi'
      exact of_decide_eq_true hi'.2
    · have a' : (G.E : Int) + 1 ≤ G.E := a
      omega
    · have b' : (decide (j < G.C) || G.N j) = false := b
      rw [hC, decide_eq_true hj] at b'
      cases b'
    · show (G.E : Int) + 1 ≤ G.E + 2
      omega
  · refine ⟨rfl, fun j hj hi => ?_, fun a => ?_, fun a => ?_, fun _ => hg, ?_⟩
    · have hi' : (decide (j < 3) && decide (0 < G.D j)) = true := hi
      rw [Bool.and_eq_true] at hi'
      exact of_decide_eq_true hi'.2
    · have a' : (G.E : Int) + 2 ≤ G.E := a
      omega
    · have a' : (G.E : Int) + 2 = G.E + 1 := a
      omega
    · show (G.E : Int) + 2 ≤ G.E + 2
      omega
theorem call_cases (G : Gr) (k : Nat) (i : Int) (h1 : ¬ (i < 0 ∨ 9007199254740991 < i)) :
    (∃ v, callG G k i = (G, v) ∧ v ≠ 0) ∨ (∃ v, callG G k i = ((calG G).1, v) ∧ v ≠ 0) ∨ callG G k i = ({ (calG G).1 with L := upd (calG G).1.L k (G.L k ++ [⟨i, (calG G).2⟩]) }, 0) := by
  unfold callG
  rw [decide_eq_false h1, cond_false]
  cases decide ((G.L k).length = 256)
  · rw [cond_false]
    obtain ⟨r, e, he⟩ : ∃ r e, addF (G.L k) ⟨i, (calG G).2⟩ = (r, e) := ⟨_, _, rfl⟩
    rw [he]
    unfold putG
    by_cases h0 : e = 0
    · have := (addF_zero he h0).1
      subst this
      show _ ∨ _ ∨ (bif decide (e = 0) then _ else _) = _
      rw [decide_eq_true h0]
      exact .inr (.inr rfl)
    · refine .inr (.inl ⟨e, ?_, h0⟩)
      show (bif decide (e = 0) then _ else _) = _
      rw [decide_eq_false h0]
      rfl
  · exact .inl ⟨5, rfl, by decide⟩
theorem cal_L (G : Gr) : (calG G).1.L = G.L := by unfold calG; cases G.go <;> rfl
theorem cal_D (G : Gr) : (calG G).1.D = G.D := by unfold calG; cases G.go <;> rfl
theorem Rel.called (h : Rel G R) (hC : G.C = 3) (k : Nat) (i : Int) : Rel { (calG G).1 with L := upd (calG G).1.L k (G.L k ++ [⟨i, (calG G).2⟩]) } (upd R k (R k ++ [newR i G.D])) := by
  have h1 := h.cal
  intro c hc
  show (upd R k (R k ++ [newR i G.D]) c).length = (upd (calG G).1.L k (G.L k ++ [⟨i, (calG G).2⟩]) c).length ∧ ∀ (j : Nat) (t : Wt) (r : Rec), (upd (calG G).1.L k (G.L k ++ [⟨i, (calG G).2⟩]) c)[j]? = some t → (upd R k (R k ++ [newR i G.D]) c)[j]? = some r → _
  have hl := (h1 c hc).1
  by_cases e : c = k
  · subst e
    rw [upd_same, upd_same]
    rw [cal_L] at hl
    refine ⟨by rw [List.length_append, List.length_append, hl]; rfl, fun j t r ht hr => ?_⟩
    suffices hs : RecOK (calG G).1 t r from ⟨hs.id, hs.ins, hs.old, hs.now, hs.go, hs.le⟩
    by_cases hj : j < (G.L c).length
    · rw [List.getElem?_append_left hj] at ht
      rw [List.getElem?_append_left (by omega)] at hr
      exact (h1 c hc).2 j t r (by rw [cal_L]; exact ht) hr
    · rw [List.getElem?_append_right (by omega)] at ht hr
      rw [hl] at hr
      obtain ⟨h5, h6⟩ := List.getElem?_eq_some_iff.1 ht
      have : j - (G.L c).length = 0 := by simp at h5; omega
      rw [this] at ht hr
      simp only [List.getElem?_cons_zero, Option.some.injEq] at ht hr
      subst ht hr
      exact cal_new hC i
  · rw [upd_ne _ _ e, upd_ne _ _ e]
    refine ⟨hl, fun j t r ht hr => ?_⟩
    have hs := (h1 c hc).2 j t r ht hr
    exact ⟨hs.id, hs.ins, hs.old, hs.now, hs.go, hs.le⟩
theorem Rel.poll (h : Rel G R) (k : Nat) : Rel (pollG G k) (upd R k ((R k).drop (cutN G.E (G.L k)))) := by
  intro c hc
  show (upd R k ((R k).drop (cutN G.E (G.L k))) c).length = (upd G.L k ((G.L k).drop (cutN G.E (G.L k))) c).length ∧ ∀ (j : Nat) (t : Wt) (r : Rec), (upd G.L k ((G.L k).drop (cutN G.E (G.L k))) c)[j]? = some t → (upd R k ((R k).drop (cutN G.E (G.L k))) c)[j]? = some r → _
  by_cases e : c = k
  · subst e
    rw [upd_same, upd_same]
    refine ⟨by rw [List.length_drop, List.length_drop, (h c hc).1], fun j t r ht hr => ?_⟩
    rw [List.getElem?_drop] at ht hr
    have hs := (h c hc).2 _ t r ht hr
    exact ⟨hs.id, hs.ins, hs.old, hs.now, hs.go, hs.le⟩
  · rw [upd_ne _ _ e, upd_ne _ _ e]
    refine ⟨(h c hc).1, fun j t r ht hr => ?_⟩
    have hs := (h c hc).2 _ t r ht hr
    exact ⟨hs.id, hs.ins, hs.old, hs.now, hs.go, hs.le⟩
theorem Rel.polled (h : Rel G R) {k : Nat} (hk : k < 3) : polled G k = ((R k).take (cutN G.E (G.L k))).map (·.id) ∧ cutN G.E (G.L k) ≤ (R k).length ∧ ∀ j r, j < cutN G.E (G.L k) → (R k)[j]? = some r → ∀ q, q < 3 → r.ins q = false ∧ r.sil q = false := by
  have hle := cutN_le (G.E : Int) (G.L k)
  have hl := (h k hk).1
  refine ⟨?_, by omega, fun j r hj hr q hq => ?_⟩
  · unfold Go.Proofs.Ytodaknidbdicdaa.polled idsL
    apply List.ext_getElem?
    intro j
    rw [List.getElem?_map, List.getElem?_map]
    by_cases hj : j < cutN G.E (G.L k)
    · rw [List.getElem?_take_of_lt hj, List.getElem?_take_of_lt hj, List.getElem?_eq_getElem (show j < (G.L k).length by omega), List.getElem?_eq_getElem (show j < (R k).length by omega)]
      have := ((h k hk).2 j _ _ (List.getElem?_eq_getElem (by omega)) (List.getElem?_eq_getElem (by omega))).id
      exact congrArg some this.symm
    · rw [List.getElem?_eq_none (by simp; omega), List.getElem?_eq_none (by simp; omega)]
      rfl
  · have hs := (h k hk).2 j _ r (List.getElem?_eq_getElem (by omega)) hr
    exact hs.old (cutN_lt j (by omega) hj) q hq
end

end Go.Proofs.Ytodaknidbdicdaa
