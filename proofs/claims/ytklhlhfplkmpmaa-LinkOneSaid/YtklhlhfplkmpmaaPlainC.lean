/-
  Two lists of links made one: plain lists.
-/
import Derived.Test.YtklhlhfplkmpmaaPlainB
namespace Go.Proofs.Ytklhlhfplkmpmaa

/-- A way along the links: these objects, from f on, to the end. -/
def Path (ws : List Nat) (key : Nat) : List Nat → Int → Prop
  | [], f => f = -1
  | i :: t, f => f = (i : Int) ∧ ∃ x n, ws[i]? = some x ∧ showF x key i = (n, true) ∧ n < ws.length ∧ Path ws key t n

theorem path_of_run {ws : List Nat} {key : Nat} : ∀ (f : Nat) (out : List Nat) (first : Int) (xs : List Nat), -1 ≤ first → first < ws.length → out.Nodup → (∀ x ∈ out, x < ws.length) → runL ws key f out first = (xs, 0) →
    ∃ t, xs = out ++ t ∧ Path ws key t first ∧ (out ++ t).Nodup ∧ (∀ x ∈ out ++ t, x < ws.length)
  | 0, _, _, _, _, _, _, _, h => by simp [runL] at h
  | f + 1, out, first, xs, h1, h2, hd, hl, h => by
    by_cases hf : first = -1
    · subst hf
      rw [runL_end] at h
      simp only [Prod.mk.injEq, and_true] at h
      exact ⟨[], by rw [List.append_nil]; exact h.symm, rfl, by rw [List.append_nil]; exact hd, by rw [List.append_nil]; exact hl⟩
    · obtain ⟨i, rfl⟩ := Int.eq_ofNat_of_zero_le (show 0 ≤ first by omega)
      by_cases hm : i ∈ out
      · rw [runL_had hm] at h
        simp at h
      · obtain ⟨x, hx⟩ : ∃ x, ws[i]? = some x := ⟨_, List.getElem?_eq_getElem (by omega)⟩
        rcases hs : showF x key i with ⟨n, b⟩
        by_cases hg : b = true ∧ n < ws.length
        · obtain ⟨rfl, hn⟩ := hg
          rw [runL_step hm hx hs hn] at h
          have hbd := show_bd hs
          have hd' : (out ++ [i]).Nodup := by
            rw [List.nodup_append]
            exact ⟨hd, by simp, fun a ha b hb => by simp at hb; subst hb; exact fun e => hm (e ▸ ha)⟩
          obtain ⟨t, e1, e2, e3, e4⟩ := path_of_run f (out ++ [i]) n xs hbd.1 hn hd' (fun y hy => by
            rcases List.mem_append.1 hy with h' | h'
            · exact hl y h'
            · simp at h'; subst h'; omega) h
          refine ⟨i :: t, by rw [e1]; simp, ⟨rfl, x, n, hx, hs, hn, e2⟩, by simpa using e3, by simpa using e4⟩
        · rw [runL_bad hm hx hs hg] at h
          simp at h
theorem run_of_path {ws : List Nat} {key : Nat} : ∀ (t : List Nat) (f : Nat) (out : List Nat) (first : Int), t.length < f → (out ++ t).Nodup → Path ws key t first → runL ws key f out first = (out ++ t, 0)
  | [], f, out, first, hf, _, hp => by
    obtain ⟨m, rfl⟩ : ∃ m, f = m + 1 := ⟨f - 1, by simp at hf; omega⟩
    have : first = -1 := hp
    subst this
    rw [runL_end, List.append_nil]
  | i :: t, f, out, first, hf, hd, hp => by
    obtain ⟨m, rfl⟩ : ∃ m, f = m + 1 := ⟨f - 1, by simp at hf; omega⟩
    obtain ⟨rfl, x, n, hx, hs, hn, hp'⟩ := hp
    have hm : i ∉ out := fun h => by
      rw [List.nodup_append] at hd
      exact hd.2.2 i h i List.mem_cons_self rfl
    rw [runL_step hm hx hs hn, run_of_path t m (out ++ [i]) n (by simp at hf; omega) (by simpa using hd) hp']
    simp

theorem path_set {ws : List Nat} {key last u : Nat} : ∀ (t : List Nat) (f : Int), last ∉ t → Path ws key t f → Path (ws.set last u) key t f
  | [], _, _, h => h
  | i :: t, f, hl, h => by
    obtain ⟨e, x, n, hx, hs, hn, hp⟩ := h
    have hi : last ≠ i := fun e => hl (e ▸ List.mem_cons_self)
    exact ⟨e, x, n, by rw [List.getElem?_set, if_neg hi]; exact hx, hs, by rw [List.length_set]; exact hn, path_set t n (fun h => hl (List.mem_cons_of_mem _ h)) hp⟩
/-- The first way, with its end turned to the second way's head. -/
theorem path_join {ws : List Nat} {key last y : Nat} {ys : List Nat} (hn : y < 16) (hlast : last < 16) (hy : y < ws.length) (hp : Path ws key (y :: ys) (y : Int)) (hly : last ∉ y :: ys) : ∀ (xs : List Nat) (f : Int), (xs ++ [last]).Nodup → Path ws key (xs ++ [last]) f →
    Path (ws.set last (hideW (y + 1) key last)) key (xs ++ [last] ++ (y :: ys)) f
  | [], f, _, h => by
    obtain ⟨e, x, n, hx, hs, hnl, hp'⟩ := h
    have hll : last < ws.length := (List.getElem?_eq_some_iff.1 hx).1
    refine ⟨e, hideW (y + 1) key last, (y : Int), by rw [List.getElem?_set, if_pos rfl, if_pos hll], ?_, by rw [List.length_set]; omega, path_set _ _ hly hp⟩
    have h1 := show_hide (n := (y : Int)) (i := (last : Int)) (key := key) ((okN_iff _).2 ⟨by omega, by omega⟩) ((okA_iff _).2 ⟨by omega, by omega⟩)
    have h2 : (hideF (y : Int) key (last : Int)).1.toNat = hideW (y + 1) key last := by
      unfold hideF
      rw [if_pos ⟨(okN_iff _).2 ⟨by omega, by omega⟩, (okA_iff _).2 ⟨by omega, by omega⟩⟩]
      simp only [Int.toNat_natCast]
      rw [show ((y : Int) + 1).toNat = y + 1 by omega]
    rwa [h2] at h1
  | i :: t, f, hd, h => by
    obtain ⟨e, x, n, hx, hs, hnl, hp'⟩ := h
    have hd' : (i :: (t ++ [last])).Nodup := hd
    rw [List.nodup_cons] at hd'
    have hi : last ≠ i := fun e => hd'.1 (by rw [← e]; simp)
    exact ⟨e, x, n, by rw [List.getElem?_set, if_neg hi]; exact hx, hs, by rw [List.length_set]; exact hnl, path_join hn hlast hy hp hly t n hd'.2 hp'⟩

/-- What is known of a list that List answers. -/
theorem list_known {ws : List Nat} {key : Nat} {first : Int} {xs : List Nat} (h0 : 0 ≤ first) (h : listF ws key first = (xs, 0)) :
    ws.length ≤ 16 ∧ xs.Nodup ∧ (∀ x ∈ xs, x < ws.length) ∧ Path ws key xs first ∧ ∃ t, xs = first.toNat :: t := by
  unfold listF at h
  split at h
  · rename_i hok
    obtain ⟨k1, k2, k3⟩ := (okL_iff ws first).1 hok
    obtain ⟨t, e, hp, hd, hl⟩ := path_of_run 17 [] first xs k2 k3 List.nodup_nil (fun x hx => by cases hx) h
    rw [List.nil_append] at e hd hl
    subst e
    refine ⟨k1, hd, hl, hp, ?_⟩
    cases xs with
    | nil => have : first = -1 := hp; omega
    | cons i t => exact ⟨t, by rw [hp.1, Int.toNat_natCast]⟩
  · simp at h
theorem list_err {ws : List Nat} {key : Nat} {first : Int} {xs : List Nat} {e : Int} (hok : okL ws first = true) (h : listF ws key first = (xs, e)) : e = 0 ∨ (xs = [] ∧ e = 150) := by
  unfold listF at h
  rw [if_pos hok] at h
  have key : ∀ (f : Nat) (out : List Nat) (first : Int), (runL ws key f out first).2 = 0 ∨ runL ws key f out first = ([], 150) := by
    intro f
    induction f with
    | zero => intro out first; exact Or.inr rfl
    | succ f ih =>
      intro out first
      rw [runL]
      split
      · exact Or.inl rfl
      · split
        · exact Or.inr rfl
        · split
          · exact ih _ _
          · exact Or.inr rfl
  rcases key 17 [] first with h' | h'
  · rw [h] at h'
    exact Or.inl h'
  · rw [h] at h'
    simp only [Prod.mk.injEq] at h'
    exact Or.inr h'

/-- Both made one. -/
theorem list_join {ws : List Nat} {key : Nat} {f g : Int} {xs ys : List Nat} {last : Nat} {zs : List Nat} {y : Nat} {yt : List Nat} (hf : 0 ≤ f) (hg : 0 ≤ g) (h1 : listF ws key f = (xs, 0)) (h2 : listF ws key g = (ys, 0)) (hx : xs = zs ++ [last]) (hy : ys = y :: yt)
    (hdis : ∀ x ∈ xs, x ∉ ys) : listF (ws.set last (hideW (y + 1) key last)) key f = (xs ++ ys, 0) := by
  obtain ⟨k1, d1, l1, p1, t1, e1⟩ := list_known hf h1
  obtain ⟨-, d2, l2, p2, t2, e2⟩ := list_known hg h2
  have hl : last < ws.length := l1 last (by rw [hx]; simp)
  have hy' : y < ws.length := l2 y (by rw [hy]; exact List.mem_cons_self)
  have hgy : g = (y : Int) := by rw [hy] at p2; exact p2.1
  have hly : last ∉ ys := hdis last (by rw [hx]; simp)
  have hnd : (xs ++ ys).Nodup := by
    rw [List.nodup_append]
    exact ⟨d1, d2, fun a ha b hb e => hdis a ha (e ▸ hb)⟩
  have hlen : (xs ++ ys).length ≤ 16 := Nat.le_trans (nodup_le ws.length _ hnd (fun x hx => (List.mem_append.1 hx).elim (l1 x) (l2 x))) k1
  have hfl : f < ws.length := by
    have := l1 f.toNat (by rw [e1]; exact List.mem_cons_self)
    omega
  unfold listF
  rw [if_pos ((okL_iff _ _).2 ⟨by rw [List.length_set]; exact k1, by omega, by rw [List.length_set]; exact hfl⟩)]
  have hp := path_join (ws := ws) (key := key) (last := last) (y := y) (ys := yt) (by omega) (by omega) hy' (by rw [hy, hgy] at p2; exact p2) (by rw [← hy]; exact hly) zs f (by rw [← hx]; exact d1) (by rw [← hx]; exact p1)
  rw [← hx, ← hy] at hp
  exact run_of_path (xs ++ ys) 17 [] f (by omega) hnd hp

end Go.Proofs.Ytklhlhfplkmpmaa
