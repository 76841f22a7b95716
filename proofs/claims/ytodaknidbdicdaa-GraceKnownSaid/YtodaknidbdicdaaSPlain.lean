/-
  Rows of records that wait: plain lists.
-/
namespace Go.Proofs.Ytodaknidbdicdaa

structure Wt where
  id : Int
  at_ : Int
  deriving DecidableEq

def okX (last : Int) (x : Wt) : Bool := decide (0 ≤ x.id ∧ x.id ≤ 9007199254740991 ∧ last ≤ x.at_ ∧ x.at_ ≤ 9007199254740991)
def okF : Int → List Wt → Bool
  | _, [] => true
  | last, x :: r => okX last x && okF x.at_ r
def errC (l : List Wt) : Int := bif decide (256 < l.length) then 5 else bif okF 1 l then 0 else 2

theorem okX_iff {last : Int} {x : Wt} : okX last x = true ↔ 0 ≤ x.id ∧ x.id ≤ 9007199254740991 ∧ last ≤ x.at_ ∧ x.at_ ≤ 9007199254740991 := by simp [okX]
theorem okF_end {last : Int} {l : List Wt} {k : Nat} (h : l.length ≤ k) : okF last (l.drop k) = true := by rw [List.drop_eq_nil_of_le h]; rfl
theorem okF_at {last : Int} {l : List Wt} {k : Nat} (h : k < l.length) : okF last (l.drop k) = (okX last l[k] && okF l[k].at_ (l.drop (k + 1))) := by
  rw [List.drop_eq_getElem_cons h]; rfl
theorem errC_big {l : List Wt} (h : 256 < l.length) : errC l = 5 := by unfold errC; rw [decide_eq_true h]; rfl
theorem errC_ok {l : List Wt} (h : l.length ≤ 256) (hk : okF 1 l = true) : errC l = 0 := by unfold errC; rw [decide_eq_false (by omega), hk]; rfl
theorem errC_bad {l : List Wt} (h : l.length ≤ 256) (hk : okF 1 l = false) : errC l = 2 := by unfold errC; rw [decide_eq_false (by omega), hk]; rfl
theorem errC_zero {l : List Wt} : errC l = 0 ↔ l.length ≤ 256 ∧ okF 1 l = true := by
  rcases Nat.lt_or_ge 256 l.length with h | h
  · rw [errC_big h]; simp; omega
  · cases hk : okF 1 l
    · rw [errC_bad h hk]; simp
    · rw [errC_ok h hk]; simp [h]
theorem okF_append {x : Wt} : ∀ {last : Int} {l : List Wt}, okF last (l ++ [x]) = true → okF last l = true
  | _, [], _ => rfl
  | last, y :: r, h => by
    simp only [List.cons_append, okF, Bool.and_eq_true] at h ⊢
    exact ⟨h.1, okF_append h.2⟩
theorem okF_more {last last' : Int} (hl : last ≤ last') : ∀ {l : List Wt}, okF last' l = true → okF last l = true
  | [], _ => rfl
  | y :: r, h => by
    simp only [okF, Bool.and_eq_true, okX_iff] at h ⊢
    exact ⟨⟨h.1.1, h.1.2.1, by omega, h.1.2.2.2⟩, h.2⟩
theorem okF_drop : ∀ {last : Int} {l : List Wt} (k : Nat), okF last l = true → okF 1 l = true → okF 1 (l.drop k) = true
  | _, [], k, _, _ => by simp [okF]
  | last, y :: r, 0, _, h => h
  | last, y :: r, k + 1, _, h => by
    simp only [okF, Bool.and_eq_true, okX_iff] at h
    exact okF_drop (last := y.at_) k h.2 (okF_more h.1.2.2.1 h.2)
/-- Each record waits for at least as much as those ahead of it. -/
theorem okF_mono : ∀ {last : Int} {l : List Wt}, okF last l = true → ∀ (i : Nat) (h : i < l.length), last ≤ l[i].at_
  | _, [], _, i, h => by simp at h
  | last, y :: r, hk, 0, _ => by
    simp only [okF, Bool.and_eq_true, okX_iff] at hk
    exact hk.1.2.2.1
  | last, y :: r, hk, i + 1, h => by
    simp only [okF, Bool.and_eq_true, okX_iff] at hk
    have := okF_mono hk.2 i (by simpa using h)
    simp only [List.getElem_cons_succ]
    omega

/-- How many at the beginning wait for no more than d. -/
def cutN (d : Int) : List Wt → Nat
  | [] => 0
  | x :: r => bif decide (x.at_ ≤ d) then cutN d r + 1 else 0
theorem cutN_yes {d : Int} {x : Wt} (r : List Wt) (h : x.at_ ≤ d) : cutN d (x :: r) = cutN d r + 1 := by
  show (bif decide (x.at_ ≤ d) then cutN d r + 1 else 0) = _
  rw [decide_eq_true h]; rfl
theorem cutN_no {d : Int} {x : Wt} (r : List Wt) (h : ¬ x.at_ ≤ d) : cutN d (x :: r) = 0 := by
  show (bif decide (x.at_ ≤ d) then cutN d r + 1 else 0) = _
  rw [decide_eq_false h]; rfl
theorem cutN_le (d : Int) : ∀ l : List Wt, cutN d l ≤ l.length
  | [] => Nat.le_refl _
  | x :: r => by
    unfold cutN
    have := cutN_le d r
    cases decide (x.at_ ≤ d) <;> simp <;> omega
theorem cutN_end {d : Int} {l : List Wt} {k : Nat} (h : l.length ≤ k) : cutN d (l.drop k) = 0 := by rw [List.drop_eq_nil_of_le h]; rfl
theorem cutN_in {d : Int} {l : List Wt} {k : Nat} (h : k < l.length) (hd : l[k].at_ ≤ d) : cutN d (l.drop k) = cutN d (l.drop (k + 1)) + 1 := by
  rw [List.drop_eq_getElem_cons h]
  show (bif decide (l[k].at_ ≤ d) then _ else 0) = _
  rw [decide_eq_true hd]; rfl
theorem cutN_out {d : Int} {l : List Wt} {k : Nat} (h : k < l.length) (hd : d < l[k].at_) : cutN d (l.drop k) = 0 := by
  rw [List.drop_eq_getElem_cons h]
  show (bif decide (l[k].at_ ≤ d) then _ else 0) = _
  rw [decide_eq_false (by omega)]; rfl
theorem cutN_lt {d : Int} : ∀ {l : List Wt} (i : Nat) (h : i < l.length), i < cutN d l → l[i].at_ ≤ d
  | [], i, h, _ => by simp at h
  | x :: r, i, h, hc => by
    unfold cutN at hc
    by_cases hx : x.at_ ≤ d
    · rw [decide_eq_true hx, cond_true] at hc
      cases i with
      | zero => exact hx
      | succ i => exact cutN_lt i (by simpa using h) (by omega)
    · rw [decide_eq_false hx, cond_false] at hc
      omega
theorem cutN_at {d : Int} : ∀ {l : List Wt} (h : cutN d l < l.length), d < (l[cutN d l]).at_
  | [], h => by simp at h
  | x :: r, h => by
    by_cases hx : x.at_ ≤ d
    · have e : cutN d (x :: r) = cutN d r + 1 := cutN_yes r hx
      simp only [e, List.getElem_cons_succ]
      exact cutN_at (by rw [e] at h; simpa using h)
    · have e : cutN d (x :: r) = 0 := cutN_no r hx
      simp only [e, List.getElem_cons_zero]
      omega
/-- In a row that may be, all behind the first that waits for more wait for more. -/
theorem cutN_ge {d : Int} {l : List Wt} (hk : okF 1 l = true) (i : Nat) (h : i < l.length) (hc : cutN d l ≤ i) : d < l[i].at_ := by
  have hc' : cutN d l < l.length := by omega
  have h1 := cutN_at hc'
  have key : ∀ {last : Int} {l : List Wt} (_ : okF last l = true) (a b : Nat) (ha : a < l.length) (hb : b < l.length), a ≤ b → l[a].at_ ≤ l[b].at_ := by
    intro last l hk
    induction l generalizing last with
    | nil => intro a b ha; simp at ha
    | cons y r ih =>
      intro a b ha hb hab
      simp only [okF, Bool.and_eq_true, okX_iff] at hk
      cases a with
      | zero =>
        cases b with
        | zero => exact Int.le_refl _
        | succ b => exact okF_mono hk.2 b (by simpa using hb)
      | succ a =>
        cases b with
        | zero => omega
        | succ b => exact ih hk.2 a b (by simpa using ha) (by simpa using hb) (by omega)
  have := key hk _ _ hc' h hc
  omega
theorem cutN_drop (d : Int) : ∀ l : List Wt, cutN d (l.drop (cutN d l)) = 0
  | [] => rfl
  | x :: r => by
    by_cases hx : x.at_ ≤ d
    · have e : cutN d (x :: r) = cutN d r + 1 := cutN_yes r hx
      rw [e]
      exact cutN_drop d r
    · have e : cutN d (x :: r) = 0 := cutN_no r hx
      rw [e]
      exact e
/-- Cut twice, the second time at a greater number. -/
theorem cutN_twice {a b : Int} (hab : a ≤ b) : ∀ l : List Wt, cutN b l = cutN a l + cutN b (l.drop (cutN a l))
  | [] => rfl
  | x :: r => by
    by_cases hx : x.at_ ≤ a
    · have e : cutN a (x :: r) = cutN a r + 1 := cutN_yes r hx
      have e' : cutN b (x :: r) = cutN b r + 1 := cutN_yes r (by omega)
      rw [e, e', List.drop_succ_cons, cutN_twice hab r]
      omega
    · have e : cutN a (x :: r) = 0 := cutN_no r hx
      rw [e, List.drop_zero]
      omega

/-- What Add answers. -/
def addF (l : List Wt) (x : Wt) : List Wt × Int :=
  bif decide (errC l = 0) then (bif decide (l.length = 256) then ([], 5) else bif decide (errC (l ++ [x]) = 0) then (l ++ [x], 0) else ([], 2)) else ([], errC l)
theorem addF_err {l : List Wt} {x : Wt} (h : errC l ≠ 0) : addF l x = ([], errC l) := by unfold addF; rw [decide_eq_false h]; rfl
theorem addF_full {l : List Wt} {x : Wt} (h : errC l = 0) (h2 : l.length = 256) : addF l x = ([], 5) := by unfold addF; rw [decide_eq_true h, decide_eq_true h2]; rfl
theorem addF_bad {l : List Wt} {x : Wt} (h : errC l = 0) (h2 : l.length ≠ 256) (h3 : errC (l ++ [x]) ≠ 0) : addF l x = ([], 2) := by unfold addF; rw [decide_eq_true h, decide_eq_false h2, decide_eq_false h3]; rfl
theorem addF_ok {l : List Wt} {x : Wt} (h : errC l = 0) (h2 : l.length ≠ 256) (h3 : errC (l ++ [x]) = 0) : addF l x = (l ++ [x], 0) := by unfold addF; rw [decide_eq_true h, decide_eq_false h2, decide_eq_true h3]; rfl
theorem errC_two {l : List Wt} (h : l.length ≤ 256) (h0 : errC l ≠ 0) : errC l = 2 := by
  cases hk : okF 1 l
  · exact errC_bad h hk
  · exact absurd (errC_ok h hk) h0

def idsL (l : List Wt) : List Int := l.map (·.id)

end Go.Proofs.Ytodaknidbdicdaa
