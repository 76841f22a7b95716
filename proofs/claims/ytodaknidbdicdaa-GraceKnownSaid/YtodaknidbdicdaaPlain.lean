/-
  The machine of grace periods: plain Lean.
-/
import Derived.Test.YtodaknidbdicdaaSPlain
namespace Go.Proofs.Ytodaknidbdicdaa

def upd {α : Type} (U : Nat → α) (k : Nat) (x : α) : Nat → α := fun j => if j = k then x else U j
theorem upd_same {α : Type} (U : Nat → α) (k : Nat) (x : α) : upd U k x k = x := if_pos rfl
theorem upd_ne {α : Type} (U : Nat → α) {k j : Nat} (x : α) (h : j ≠ k) : upd U k x j = U j := if_neg h

/-- C processors; depths, rows; so many ended, one is under way; which reports are waited for. -/
structure Gr where
  C : Nat
  D : Nat → Int
  L : Nat → List Wt
  E : Nat
  go : Bool
  N : Nat → Bool

structure Inv (G : Gr) : Prop where
  c1 : 1 ≤ G.C
  c2 : G.C ≤ 8
  d : ∀ k, 0 ≤ G.D k ∧ G.D k ≤ 8
  l : ∀ k, errC (G.L k) = 0
  n : G.go = false → ∀ k, G.N k = false
  o : ∀ k, G.C ≤ k → G.N k = false

def newG (C : Nat) : Gr := ⟨C, fun _ => 0, fun _ => [], 0, false, fun _ => false⟩
theorem Inv.new {C : Nat} (h1 : 1 ≤ C) (h2 : C ≤ 8) : Inv (newG C) := ⟨h1, h2, fun _ => ⟨Int.le_refl _, by show (0 : Int) ≤ 8; omega⟩, fun _ => rfl, fun _ _ => rfl, fun _ _ => rfl⟩

def lockG (G : Gr) (k : Nat) : Gr × Int := bif decide (G.D k = 8) then (G, 5) else ({ G with D := upd G.D k (G.D k + 1) }, 0)
def unlockG (G : Gr) (k : Nat) : Gr × Int := bif decide (G.D k = 0) then (G, 292) else ({ G with D := upd G.D k (G.D k - 1) }, 0)
def begG (G : Gr) : Gr := { G with go := true, N := fun k => decide (k < G.C) || G.N k }
def endG (G : Gr) : Gr := { G with go := false, E := G.E + 1 }
def needG (G : Gr) (k : Nat) : Gr := { G with N := upd G.N k false }
/-- The last of a row waits for more than E. -/
def lastB (E : Nat) (l : List Wt) : Bool := match l.getLast? with
  | none => false
  | some x => decide ((E : Int) < x.at_)
def anyU (f : Nat → Bool) : Nat → Bool
  | 0 => false
  | n + 1 => anyU f n || f n
def laterG (G : Gr) : Bool := anyU (fun k => lastB G.E (G.L k)) G.C
def needsG (G : Gr) : Bool := anyU G.N G.C
def quietG (G : Gr) (k : Nat) : Gr × Int :=
  bif decide (0 < G.D k) then (G, 292) else bif !G.go then (G, 0) else bif needsG (needG G k) then (needG G k, 0) else
  bif laterG (endG (needG G k)) then (begG (endG (needG G k)), 0) else (endG (needG G k), 0)
/-- Behind the checks of Call: the period begun where none is under way, and what the record waits for. -/
def calG (G : Gr) : Gr × Int := bif G.go then (G, (G.E : Int) + 2) else (begG G, (G.E : Int) + 1)
def putG (G : Gr) (k : Nat) (r : List Wt × Int) : Gr × Int := bif decide (r.2 = 0) then ({ G with L := upd G.L k r.1 }, 0) else (G, r.2)
def callG (G : Gr) (k : Nat) (i : Int) : Gr × Int :=
  bif decide (i < 0 ∨ 9007199254740991 < i) then (G, 2) else bif decide ((G.L k).length = 256) then (G, 5) else
  putG (calG G).1 k (addF (G.L k) ⟨i, (calG G).2⟩)
def pollG (G : Gr) (k : Nat) : Gr := { G with L := upd G.L k ((G.L k).drop (cutN G.E (G.L k))) }
def polled (G : Gr) (k : Nat) : List Int := idsL ((G.L k).take (cutN G.E (G.L k)))

theorem anyU_no {f : Nat → Bool} : ∀ {n : Nat}, anyU f n = false → ∀ k, k < n → f k = false
  | 0, _, k, hk => by omega
  | n + 1, h, k, hk => by
    unfold anyU at h
    rw [Bool.or_eq_false_iff] at h
    rcases Nat.lt_succ_iff_lt_or_eq.1 hk with h1 | rfl
    · exact anyU_no h.1 k h1
    · exact h.2
theorem anyU_none {f : Nat → Bool} : ∀ {n : Nat}, (∀ k, k < n → f k = false) → anyU f n = false
  | 0, _ => rfl
  | n + 1, h => by
    unfold anyU
    rw [anyU_none (fun k hk => h k (by omega)), h n (by omega)]; rfl
theorem anyU_yes {f : Nat → Bool} {n k : Nat} (hk : k < n) (h : f k = true) : anyU f n = true := by
  cases e : anyU f n
  · rw [anyU_no e k hk] at h; cases h
  · rfl

section
variable {G : Gr} {k : Nat}
theorem Inv.lock (h : Inv G) : Inv (lockG G k).1 := by
  unfold lockG
  by_cases h8 : G.D k = 8
  · rw [decide_eq_true h8]; exact h
  · rw [decide_eq_false h8]
    refine ⟨h.c1, h.c2, fun j => ?_, h.l, h.n, h.o⟩
    show 0 ≤ upd G.D k (G.D k + 1) j ∧ upd G.D k (G.D k + 1) j ≤ 8
    by_cases e : j = k
    · subst e; rw [upd_same]; have := h.d j; omega
    · rw [upd_ne _ _ e]; exact h.d j
theorem Inv.unlock (h : Inv G) : Inv (unlockG G k).1 := by
  unfold unlockG
  by_cases h8 : G.D k = 0
  · rw [decide_eq_true h8]; exact h
  · rw [decide_eq_false h8]
    refine ⟨h.c1, h.c2, fun j => ?_, h.l, h.n, h.o⟩
    show 0 ≤ upd G.D k (G.D k - 1) j ∧ upd G.D k (G.D k - 1) j ≤ 8
    by_cases e : j = k
    · subst e; rw [upd_same]; have := h.d j; omega
    · rw [upd_ne _ _ e]; exact h.d j
theorem Inv.need (h : Inv G) : Inv (needG G k) := by
  refine ⟨h.c1, h.c2, h.d, h.l, fun hg j => ?_, fun j hj => ?_⟩
  all_goals
    show upd G.N k false j = false
    by_cases e : j = k
    · subst e; exact upd_same _ _ _
    · rw [upd_ne _ _ e]
      first | exact h.n hg j | exact h.o j hj
theorem Inv.beg (h : Inv G) : Inv (begG G) := by
  refine ⟨h.c1, h.c2, h.d, h.l, (fun hg => by cases hg), fun j hj => ?_⟩
  show (decide (j < G.C) || G.N j) = false
  rw [h.o j hj, decide_eq_false (by have : G.C ≤ j := hj; omega)]; rfl
theorem Inv.end_ (h : Inv G) (hn : needsG G = false) : Inv (endG G) := by
  refine ⟨h.c1, h.c2, h.d, h.l, fun _ j => ?_, h.o⟩
  rcases Nat.lt_or_ge j G.C with h1 | h1
  · exact anyU_no hn j h1
  · exact h.o j h1
theorem Inv.quiet (h : Inv G) : Inv (quietG G k).1 := by
  unfold quietG
  cases decide (0 < G.D k)
  · cases G.go
    · exact h
    · cases hn : needsG (needG G k)
      · cases laterG (endG (needG G k))
        · exact h.need.end_ hn
        · exact (h.need.end_ hn).beg
      · exact h.need
  · exact h
theorem Inv.cal (h : Inv G) : Inv (calG G).1 := by
  unfold calG
  cases G.go
  · exact h.beg
  · exact h
theorem addF_zero {l r : List Wt} {x : Wt} {e : Int} (h : addF l x = (r, e)) (h0 : e = 0) : r = l ++ [x] ∧ errC r = 0 := by
  by_cases h1 : errC l = 0
  · by_cases h2 : l.length = 256
    · rw [addF_full h1 h2] at h; injection h with _ h3; omega
    · by_cases h3 : errC (l ++ [x]) = 0
      · rw [addF_ok h1 h2 h3] at h
        injection h with h4 h5
        subst h4
        exact ⟨rfl, h3⟩
      · rw [addF_bad h1 h2 h3] at h; injection h with _ h3; omega
  · rw [addF_err h1] at h; injection h with _ h3; omega
theorem Inv.put (h : Inv G) {r : List Wt × Int} (hr : r.2 = 0 → errC r.1 = 0) : Inv (putG G k r).1 := by
  unfold putG
  by_cases h0 : r.2 = 0
  · rw [decide_eq_true h0]
    refine ⟨h.c1, h.c2, h.d, fun j => ?_, h.n, h.o⟩
    show errC (upd G.L k r.1 j) = 0
    by_cases e : j = k
    · subst e; rw [upd_same]; exact hr h0
    · rw [upd_ne _ _ e]; exact h.l j
  · rw [decide_eq_false h0]; exact h
theorem Inv.call (h : Inv G) (i : Int) : Inv (callG G k i).1 := by
  unfold callG
  cases decide (i < 0 ∨ 9007199254740991 < i)
  · cases decide ((G.L k).length = 256)
    · exact h.cal.put (fun h0 => (addF_zero (l := G.L k) (x := ⟨i, (calG G).2⟩) rfl h0).2)
    · exact h
  · exact h
theorem Inv.poll (h : Inv G) : Inv (pollG G k) := by
  refine ⟨h.c1, h.c2, h.d, fun j => ?_, h.n, h.o⟩
  show errC (upd G.L k ((G.L k).drop (cutN G.E (G.L k))) j) = 0
  by_cases e : j = k
  · subst e
    rw [upd_same]
    have h1 := errC_zero.1 (h.l j)
    exact errC_zero.2 ⟨by rw [List.length_drop]; omega, okF_drop (last := 1) _ h1.2 h1.2⟩
  · rw [upd_ne _ _ e]; exact h.l j
end

end Go.Proofs.Ytodaknidbdicdaa
