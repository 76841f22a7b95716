/-
  Counting over the grid of objects: plain lists.
-/
namespace Go.Proofs.Ytehmegnmfpfopaa

def gridL (S O : Nat) : List (Int × Int) := (List.range S).flatMap fun s => (List.range O).map fun i => (((s : Nat) : Int), ((i : Nat) : Int))
def cntP (S O : Nat) (p : Int → Int → Bool) : Nat := (gridL S O).countP fun q => p q.1 q.2
theorem mem_grid {S O : Nat} {x y : Int} : (x, y) ∈ gridL S O ↔ 0 ≤ x ∧ x < S ∧ 0 ≤ y ∧ y < O := by
  simp only [gridL, List.mem_flatMap, List.mem_range, List.mem_map, Prod.mk.injEq]
  constructor
  · rintro ⟨s, hs, i, hi, rfl, rfl⟩; omega
  · rintro ⟨h1, h2, h3, h4⟩
    exact ⟨x.toNat, by omega, y.toNat, by omega, by omega, by omega⟩
theorem grid_nodup (S O : Nat) : (gridL S O).Nodup := by
  unfold gridL
  rw [List.nodup_iff_pairwise_ne, List.pairwise_flatMap]
  refine ⟨fun s _ => ?_, ?_⟩
  · rw [List.pairwise_map]
    exact (List.nodup_iff_pairwise_ne.1 List.nodup_range).imp fun {a b} h e => h (by simp at e; omega)
  · exact (List.nodup_iff_pairwise_ne.1 List.nodup_range).imp fun {a b} h x hx y hy e => by
      simp only [List.mem_map, List.mem_range] at hx hy
      obtain ⟨i, _, rfl⟩ := hx
      obtain ⟨j, _, rfl⟩ := hy
      simp at e
      omega
theorem grid_len (S O : Nat) : (gridL S O).length = S * O := by
  unfold gridL
  rw [List.length_flatMap]
  simp [List.map_const']
theorem cntP_le (S O : Nat) (p : Int → Int → Bool) : cntP S O p ≤ S * O := by
  rw [← grid_len]; exact List.countP_le_length
theorem cntP_congr {S O : Nat} {p q : Int → Int → Bool} (h : ∀ x y : Int, 0 ≤ x → x < S → 0 ≤ y → y < O → p x y = q x y) : cntP S O p = cntP S O q := by
  unfold cntP
  refine List.countP_congr ?_
  rintro ⟨x, y⟩ hx
  obtain ⟨h1, h2, h3, h4⟩ := mem_grid.1 hx
  simp only [h x y h1 h2 h3 h4]
theorem cntP_zero {S O : Nat} {p : Int → Int → Bool} (h : ∀ x y : Int, 0 ≤ x → x < S → 0 ≤ y → y < O → p x y = false) : cntP S O p = 0 := by
  unfold cntP
  rw [List.countP_eq_zero]
  rintro ⟨x, y⟩ hx
  obtain ⟨h1, h2, h3, h4⟩ := mem_grid.1 hx
  simp [h x y h1 h2 h3 h4]
theorem countP_one {α : Type} [DecidableEq α] : ∀ {l : List α}, l.Nodup → ∀ {a : α}, a ∈ l → ∀ {p q : α → Bool}, p a = false → q a = true → (∀ b, b ≠ a → p b = q b) → l.countP q = l.countP p + 1
  | [], _, _, ha, _, _, _, _, _ => by cases ha
  | b :: r, hn, a, ha, p, q, h1, h2, h3 => by
    obtain ⟨hb, hr⟩ := List.nodup_cons.1 hn
    rcases List.mem_cons.1 ha with e | ha
    · subst e
      rw [List.countP_cons_of_pos h2, List.countP_cons_of_neg (by simp [h1])]
      congr 1
      refine List.countP_congr fun x hx => ?_
      rw [h3 x (fun e => hb (e ▸ hx))]
    · have hne : b ≠ a := fun e => hb (e ▸ ha)
      have ih := countP_one hr ha h1 h2 h3
      rw [List.countP_cons, List.countP_cons, ih, h3 b hne]
      omega
theorem cntP_one {S O : Nat} {p q : Int → Int → Bool} {X Y : Int} (hX : 0 ≤ X ∧ X < S ∧ 0 ≤ Y ∧ Y < O) (h1 : p X Y = false) (h2 : q X Y = true) (h3 : ∀ x y, ¬ (x = X ∧ y = Y) → p x y = q x y) : cntP S O q = cntP S O p + 1 := by
  unfold cntP
  refine countP_one (grid_nodup S O) (mem_grid.2 hX) h1 h2 ?_
  rintro ⟨x, y⟩ hb
  exact h3 x y fun e => hb (by rw [e.1, e.2])
/-- The two classes apart. -/
theorem cntP_or {S O : Nat} {p q r : Int → Int → Bool} (h : ∀ x y, r x y = (p x y || q x y)) (h2 : ∀ x y, p x y = true → q x y = false) : cntP S O r = cntP S O p + cntP S O q := by
  unfold cntP
  induction gridL S O with
  | nil => rfl
  | cons a l ih =>
    rw [List.countP_cons, List.countP_cons, List.countP_cons, ih, h]
    cases h3 : p a.1 a.2
    · simp; omega
    · rw [h2 _ _ h3]; simp; omega
/-- Row by row. -/
def rowP (p : Int → Int → Bool) (s i : Nat) : Nat := (List.range i).countP fun (j : Nat) => p (s : Int) (j : Int)
def rowsP (p : Int → Int → Bool) (O s : Nat) : Nat := ((List.range s).map fun k => rowP p k O).sum
theorem rowP_zero (p : Int → Int → Bool) (s : Nat) : rowP p s 0 = 0 := rfl
theorem rowP_succ (p : Int → Int → Bool) (s i : Nat) : rowP p s (i + 1) = rowP p s i + (if p s i then 1 else 0) := by
  unfold rowP
  rw [List.range_succ, List.countP_append, List.countP_singleton]
theorem rowsP_succ (p : Int → Int → Bool) (O s : Nat) : rowsP p O (s + 1) = rowsP p O s + rowP p s O := by
  unfold rowsP
  rw [List.range_succ, List.map_append, List.sum_append]
  simp
theorem rowsP_zero (p : Int → Int → Bool) (O : Nat) : rowsP p O 0 = 0 := rfl
theorem cntP_rows (p : Int → Int → Bool) (S O : Nat) : cntP S O p = rowsP p O S := by
  unfold cntP gridL rowsP rowP
  rw [List.countP_flatMap]
  congr 1
  refine List.map_congr_left fun s _ => ?_
  rw [Function.comp_apply, List.countP_map]
  rfl

end Go.Proofs.Ytehmegnmfpfopaa
