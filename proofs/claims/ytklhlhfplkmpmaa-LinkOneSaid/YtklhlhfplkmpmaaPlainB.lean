/-
  The objects of a list of links: plain lists.
-/
import Derived.Test.YtklhlhfplkmpmaaPlain
namespace Go.Proofs.Ytklhlhfplkmpmaa

/-- A list without a double, of numbers below n, has at most n. -/
theorem nodup_le : ∀ (n : Nat) (l : List Nat), l.Nodup → (∀ x ∈ l, x < n) → l.length ≤ n
  | 0, l, _, h => by
    cases l with
    | nil => exact Nat.le_refl _
    | cons a t => exact absurd (h a List.mem_cons_self) (Nat.not_lt_zero a)
  | n + 1, l, hd, h => by
    by_cases hm : n ∈ l
    · have h1 : (l.erase n).Nodup := hd.erase n
      have h2 : ∀ x ∈ l.erase n, x < n := by
        intro x hx
        have h3 := (List.Nodup.mem_erase_iff hd).1 hx
        have := h x h3.2
        omega
      have h4 := nodup_le n _ h1 h2
      have h5 := List.length_erase_of_mem hm
      have h6 : 0 < l.length := List.length_pos_of_mem hm
      omega
    · have := nodup_le n l hd (fun x hx => by
        have h1 := h x hx
        have h2 : x ≠ n := fun e => hm (e ▸ hx)
        omega)
      omega

/-- The walk: fuel, what is out so far, the next object. -/
def runL (ws : List Nat) (key : Nat) : Nat → List Nat → Int → List Nat × Int
  | 0, _, _ => ([], 150)
  | f + 1, out, first => if first = -1 then (out, 0) else if first.toNat ∈ out then ([], 150)
    else if (showF (ws.getD first.toNat 0) key first).2 = true ∧ (showF (ws.getD first.toNat 0) key first).1 < ws.length then runL ws key f (out ++ [first.toNat]) (showF (ws.getD first.toNat 0) key first).1
    else ([], 150)
def okL (ws : List Nat) (first : Int) : Bool := decide (ws.length ≤ 16 ∧ -1 ≤ first ∧ first < ws.length)
def listF (ws : List Nat) (key : Nat) (first : Int) : List Nat × Int := if okL ws first = true then runL ws key 17 [] first else ([], 2)
theorem okL_iff (ws : List Nat) (first : Int) : okL ws first = true ↔ ws.length ≤ 16 ∧ -1 ≤ first ∧ first < ws.length := by simp [okL]

/-- What holds along the walk. -/
structure Inv (ws : List Nat) (out : List Nat) (first : Int) : Prop where
  len : ws.length ≤ 16
  nd : out.Nodup
  lt : ∀ x ∈ out, x < ws.length
  lo : -1 ≤ first
  hi : first < ws.length
theorem Inv.start {ws : List Nat} {first : Int} (h : okL ws first = true) : Inv ws [] first := by
  obtain ⟨h1, h2, h3⟩ := (okL_iff ws first).1 h
  exact ⟨h1, List.nodup_nil, fun x hx => (by cases hx), h2, h3⟩
theorem Inv.le {ws out : List Nat} {first : Int} (h : Inv ws out first) : out.length ≤ 16 := Nat.le_trans (nodup_le _ _ h.nd h.lt) h.len
theorem Inv.more {ws out : List Nat} {first : Int} {i : Nat} (h : Inv ws out first) (hf : first = (i : Int)) (hi : i ∉ out) : out.length < ws.length := by
  have h1 : (out ++ [i]).Nodup := by
    rw [List.nodup_append]
    exact ⟨h.nd, by simp, fun a ha b hb => by simp at hb; subst hb; exact fun e => hi (e ▸ ha)⟩
  have h2 := nodup_le ws.length (out ++ [i]) h1 (fun x hx => by
    rcases List.mem_append.1 hx with h' | h'
    · exact h.lt x h'
    · simp at h'; subst h'
      have := h.hi
      omega)
  rw [List.length_append, List.length_singleton] at h2
  omega
theorem Inv.next {ws out : List Nat} {first n : Int} {i : Nat} (h : Inv ws out first) (hf : first = (i : Int)) (hi : i ∉ out) (h0 : -1 ≤ n) (h1 : n < ws.length) : Inv ws (out ++ [i]) n := by
  refine ⟨h.len, ?_, ?_, h0, h1⟩
  · rw [List.nodup_append]
    exact ⟨h.nd, by simp, fun a ha b hb => by simp at hb; subst hb; exact fun e => hi (e ▸ ha)⟩
  · intro x hx
    rcases List.mem_append.1 hx with h' | h'
    · exact h.lt x h'
    · simp at h'; subst h'
      have := h.hi
      omega

theorem runL_end (ws : List Nat) (key f : Nat) (out : List Nat) : runL ws key (f + 1) out (-1) = (out, 0) := by rw [runL, if_pos rfl]
theorem runL_had {ws : List Nat} {key f : Nat} {out : List Nat} {i : Nat} (h : i ∈ out) : runL ws key (f + 1) out (i : Int) = ([], 150) := by
  rw [runL, if_neg (by omega), Int.toNat_natCast, if_pos h]
theorem runL_step {ws : List Nat} {key f : Nat} {out : List Nat} {i : Nat} {x : Nat} {n : Int} (h : i ∉ out) (hx : ws[i]? = some x) (hs : showF x key i = (n, true)) (hn : n < ws.length) :
    runL ws key (f + 1) out (i : Int) = runL ws key f (out ++ [i]) n := by
  have e : ws.getD i 0 = x := by rw [List.getD_eq_getElem?_getD, hx]; rfl
  rw [runL, if_neg (by omega), Int.toNat_natCast, if_neg h, e, hs, if_pos ⟨rfl, hn⟩]
theorem runL_bad {ws : List Nat} {key f : Nat} {out : List Nat} {i : Nat} {x : Nat} {n : Int} {b : Bool} (h : i ∉ out) (hx : ws[i]? = some x) (hs : showF x key i = (n, b)) (hn : ¬ (b = true ∧ n < ws.length)) :
    runL ws key (f + 1) out (i : Int) = ([], 150) := by
  have e : ws.getD i 0 = x := by rw [List.getD_eq_getElem?_getD, hx]; rfl
  rw [runL, if_neg (by omega), Int.toNat_natCast, if_neg h, e, hs, if_neg hn]

end Go.Proofs.Ytklhlhfplkmpmaa
