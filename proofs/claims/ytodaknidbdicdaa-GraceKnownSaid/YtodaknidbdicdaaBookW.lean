/-
  The book's unlocked and reported.
-/
import Derived.Test.YtodaknidbdicdaaBook
import Derived.WalkKit
import Derived.Deep.DeepMust
import Derived.WalkSpells
import Derived.WalkLawsBesides
import Derived.Handy
import Derived.Lib.Hide
import Derived.Deep.QuietTactic
import Derived.BigQuiet
namespace Go.Proofs.Ytodaknidbdicdaa
open Go.RowKit

def mapN (f : Rec → Rec) (j : Nat) (l : List Rec) : List Rec := (l.take j).map f ++ l.drop j
section
variable {f : Rec → Rec} {j : Nat} {l : List Rec}
theorem mapN_zero : mapN f 0 l = l := by unfold mapN; simp
theorem mapN_all (h : l.length ≤ j) : mapN f j l = l.map f := by unfold mapN; rw [List.take_of_length_le h, List.drop_eq_nil_of_le h, List.append_nil]
theorem mapN_len : (mapN f j l).length = l.length := by unfold mapN; rw [List.length_append, List.length_map, List.length_take, List.length_drop]; omega
theorem mapN_at (h : j < l.length) : (mapN f j l)[j]? = some l[j] := by
  unfold mapN
  rw [List.getElem?_append_right (by rw [List.length_map, List.length_take]; omega), List.length_map, List.length_take, List.getElem?_drop, List.getElem?_eq_getElem (by omega)]
  congr 2
  omega
theorem mapN_next (h : j < l.length) : (mapN f j l).set j (f l[j]) = mapN f (j + 1) l := by
  apply List.ext_getElem?
  intro i
  rw [List.getElem?_set, mapN_len]
  by_cases e : j = i
  · subst e
    rw [if_pos rfl, if_pos h]
    unfold mapN
    rw [List.getElem?_append_left (by rw [List.length_map, List.length_take]; omega), List.getElem?_map, List.getElem?_take_of_lt (by omega), List.getElem?_eq_getElem h]
    rfl
  · rw [if_neg e]
    unfold mapN
    rcases (by omega : i < j ∨ j + 1 ≤ i) with h1 | h1
    · rw [List.getElem?_append_left (by rw [List.length_map, List.length_take]; omega), List.getElem?_append_left (by rw [List.length_map, List.length_take]; omega), List.getElem?_map, List.getElem?_map, List.getElem?_take_of_lt h1, List.getElem?_take_of_lt (by omega)]
    · rw [List.getElem?_append_right (by rw [List.length_map, List.length_take]; omega), List.getElem?_append_right (by rw [List.length_map, List.length_take]; omega), List.getElem?_drop, List.getElem?_drop, List.length_map, List.length_map, List.length_take, List.length_take]
      congr 1
      omega
end
theorem upd_upd {α : Type} (U : Nat → α) (k : Nat) (x y : α) : upd (upd U k x) k y = upd U k y := by
  funext j
  unfold upd
  by_cases e : j = k
  · rw [if_pos e, if_pos e]
  · rw [if_neg e, if_neg e, if_neg e]
theorem upd_id {α : Type} (U : Nat → α) (k : Nat) : upd U k (U k) = U := by
  funext j
  unfold upd
  by_cases e : j = k
  · rw [if_pos e, e]
  · rw [if_neg e]

/-- A row with at least one record: where it lies. -/
theorem RecRow.at_ {w : World} {v : Value} {β : Option Nat} {rs : List Rec} (h : RecRow w v β rs) (hp : 0 < rs.length) : ∃ g off c, v = .slice (some ⟨g, off, none⟩) rs.length c ∧ β = some g ∧ RecAt w g off rs.length c rs := by
  rcases h with ⟨-, -, rfl⟩ | ⟨g, off, n, c, h1, h2, h3⟩
  · simp at hp
  · obtain rfl := h3.len
    exact ⟨g, off, c, h1, h2, h3⟩

/-- A cell of record k in row i: what lies there, and what comes of a store. -/
theorem BookAt.mark {w : World} {bb : Nat} {ws : List Nat} {D : Nat → Int} {R : Nat → List Rec} (h : BookAt w bb ws D R) {i : Nat} (hi : i < 3) {k : Nat} {r : Rec} (hk : (R i)[k]? = some r) :
    ∃ g off c, w.cell? ⟨bb, 3 + i, none⟩ = some (.slice (some ⟨g, off, none⟩) (R i).length c) ∧ g ∈ ws ∧ (∀ o, w.frozen? ⟨g, o, none⟩ = false) ∧ (∀ j, j < 17 → w.cell? ⟨g, off + k * 17 + j, none⟩ = (recA r)[j]?) ∧
      ∀ (m : Nat) (u : Value) (r' : Rec), m < 17 → (recA r).setIfInBounds m u = recA r' → BookAt (w.setCell ⟨g, off + k * 17 + m, none⟩ u) bb ws D (upd R i ((R i).set k r')) := by
  obtain ⟨v, β, h1, h2, h3, h4, -⟩ := h.cV hi
  have hkl := (List.getElem?_eq_some_iff.1 hk).1
  obtain ⟨g, off, c, rfl, rfl, h5⟩ := h2.at_ (by omega)
  refine ⟨g, off, c, h1, (h3 g rfl).1, fun o => h5.frz o, fun j hj => h5.cell hk hj, fun m u r' hm hr => h4 _ _ (by simp [World.setCell]) (fun i hi' hne => Below.heap_setCell w _ _ i fun e => hne (by rw [e])) ?_⟩
  have h6 := h5.set hk hm hr
  exact .inr ⟨g, off, _, c, rfl, rfl, h6⟩
theorem BookAt.rowLen {w : World} {bb : Nat} {ws : List Nat} {D : Nat → Int} {R : Nat → List Rec} (h : BookAt w bb ws D R) {i : Nat} (hi : i < 3) :
    ∃ A c, w.cell? ⟨bb, 3 + i, none⟩ = some (.slice A (R i).length c) := by
  obtain ⟨v, β, h1, h2, -⟩ := h.cV hi
  obtain ⟨A, c, rfl⟩ := h2.shape
  exact ⟨A, c, h1⟩

section
variable {bb : Nat} {ws : List Nat} {D : Nat → Int} {R : Nat → List Rec}
set_option maxRecDepth 100000 in
set_option maxHeartbeats 2000000 in
theorem unlocked_any (w : World) (h : BookAt w bb ws D R) (c : Nat) (hc : c < 3) (hlen : ∀ i, i < 3 → (R i).length ≤ 1000000) : Calls Try.prog 25 #[.pointer (some ⟨bb, 0, none⟩), .int .i64 (c : Int)] w fun e w' =>
    e = .returned (.tuple #[]) ∧ BookAt w' bb ws D (fun i => (R i).map (unlockR c)) ∧ Rws ws w w' := by
  have HL := Lib.hid hlen
  have HB := Lib.hid h
  have c0 : (0 : Int) ≤ (c : Int) := by omega
  have c1 : (c : Int) < 8 := by omega
  clear h hlen
  go_enter Try.func25, Try.ntmps25
  go_wp2
  go_loopw [4, 5] (fun q _ wr => ∃ (i : Nat) (R1 : Nat → List Rec), i ≤ 3 ∧ q = .int .i64 i ∧ Hid (BookAt wr bb ws D R1) ∧ Hid (∀ d, d < i → R1 d = (R d).map (unlockR c)) ∧ Hid (∀ d, i ≤ d → R1 d = R d) ∧ Rws ws w wr) (fun q _ _ => 3 - (intOf q).toNat)
  case atStart => exact ⟨0, R, by omega, rfl, HB, Lib.hid (fun d hd => by omega), Lib.hid (fun _ _ => rfl), Rws.refl _ _⟩
  case round =>
    obtain ⟨i, R1, hi3, rfl, HB1, HA1, HA2, hT⟩ := hrel
    have i0 : (0 : Int) ≤ (i : Int) := by omega
    by_cases hi : i < 3
    · have i1 : (i : Int) < 3 := by omega
      obtain ⟨n, hn⟩ : ∃ n, (R i).length = n := ⟨_, rfl⟩
      have hn6 : n ≤ 1000000 := by rw [← hn]; exact HL.out i hi
      have HR : Hid (upd R1 i (mapN (unlockR c) 0 (R i)) = R1) := Lib.hid (by rw [mapN_zero, ← HA2.out i (Nat.le_refl i), upd_id])
      have HN := Lib.hid hn
      clear hn
      go_wp2
      go_loopw [5] (fun q w2 => ∃ j : Nat, j ≤ n ∧ q = .int .i64 j ∧ Hid (BookAt w2 bb ws D (upd R1 i (mapN (unlockR c) j (R i)))) ∧ Rws ws w w2) (fun q _ => n - (intOf q).toNat)
      case atStart => exact ⟨0, by omega, rfl, Lib.hid (by rw [HR.out]; exact HB1.out), hT⟩
      case round =>
        clear hT HB1
        obtain ⟨j, hj, rfl, HB2, hT⟩ := hrel
        have j0 : (0 : Int) ≤ (j : Int) := by omega
        by_cases hjn : j < n
        · have j1 : (j : Int) < (n : Int) := by omega
          have hjl : j < (R i).length := by rw [HN.out]; exact hjn
          obtain ⟨g, off, cp, k1, k2, k3, k4, k5⟩ := HB2.out.mark hi (k := j) (r := (R i)[j]) (by rw [upd_same]; exact mapN_at hjl)
          rw [upd_same, mapN_len, HN.out] at k1
          have hcell := k4 (1 + c) (by omega)
          have hr : (recA (R i)[j])[1 + c]? = some (.bool ((R i)[j].ins c)) := by
            match c, hc with
            | 0, _ | 1, _ | 2, _ => rfl
          rw [hr, ← Nat.add_assoc] at hcell
          have hf := k3 (off + j * 17 + 1 + c)
          have HS := Lib.hid (k5 (1 + c) (.bool false) (unlockR c (R i)[j]) (by omega) (recA_ins _ hc false))
          have HU : Hid (upd (upd R1 i (mapN (unlockR c) j (R i))) i ((upd R1 i (mapN (unlockR c) j (R i)) i).set j (unlockR c (R i)[j])) = upd R1 i (mapN (unlockR c) (j + 1) (R i))) := Lib.hid (by rw [upd_upd, upd_same, mapN_next hjl])
          have HG := Lib.hid k2
          clear k4 k5 hr k2 k3
          go_wp2
          go_roundw
          case rel => exact ⟨j + 1, by omega, by go_num, Lib.hid (by have h5 := HS.out; rw [HU.out, ← Nat.add_assoc] at h5; exact h5), hT.set HG.out _ _⟩
          case measure => simp [intOf]; omega
        · obtain rfl : j = n := by omega
          obtain ⟨A, cp, k1⟩ := HB2.out.rowLen hi
          rw [upd_same, mapN_len, HN.out] at k1
          go_wp2
          go_roundw
          case rel => exact ⟨i + 1, _, by omega, by go_num, HB2, Lib.hid (fun d hd => by
              by_cases e : d = i
              · subst e; rw [upd_same, mapN_all (by rw [HN.out]; exact Nat.le_refl _)]
              · rw [upd_ne _ _ e]; exact HA1.out d (by omega)), Lib.hid (fun d hd => by rw [upd_ne _ _ (by omega)]; exact HA2.out d (by omega)), hT⟩
          case measure => simp [intOf]; omega
    · obtain rfl : i = 3 := by omega
      go_wp2
      go_end0
      exact ⟨rfl, HB1.out.congr (fun d hd => (HA1.out d hd).symm), hT⟩
set_option maxRecDepth 100000 in
set_option maxHeartbeats 2000000 in
theorem reported_any (w : World) (h : BookAt w bb ws D R) (c : Nat) (hc : c < 3) (hlen : ∀ i, i < 3 → (R i).length ≤ 1000000) : Calls Try.prog 26 #[.pointer (some ⟨bb, 0, none⟩), .int .i64 (c : Int)] w fun e w' =>
    e = .returned (.tuple #[]) ∧ BookAt w' bb ws D (fun i => (R i).map (reportR c)) ∧ Rws ws w w' := by
  have HL := Lib.hid hlen
  have HB := Lib.hid h
  have c0 : (0 : Int) ≤ (c : Int) := by omega
  have c1 : (c : Int) < 8 := by omega
  clear h hlen
  go_enter Try.func26, Try.ntmps26
  go_wp2
  go_loopw [4, 5] (fun q _ wr => ∃ (i : Nat) (R1 : Nat → List Rec), i ≤ 3 ∧ q = .int .i64 i ∧ Hid (BookAt wr bb ws D R1) ∧ Hid (∀ d, d < i → R1 d = (R d).map (reportR c)) ∧ Hid (∀ d, i ≤ d → R1 d = R d) ∧ Rws ws w wr) (fun q _ _ => 3 - (intOf q).toNat)
  case atStart => exact ⟨0, R, by omega, rfl, HB, Lib.hid (fun d hd => by omega), Lib.hid (fun _ _ => rfl), Rws.refl _ _⟩
  case round =>
    obtain ⟨i, R1, hi3, rfl, HB1, HA1, HA2, hT⟩ := hrel
    have i0 : (0 : Int) ≤ (i : Int) := by omega
    by_cases hi : i < 3
    · have i1 : (i : Int) < 3 := by omega
      obtain ⟨n, hn⟩ : ∃ n, (R i).length = n := ⟨_, rfl⟩
      have hn6 : n ≤ 1000000 := by rw [← hn]; exact HL.out i hi
      have HR : Hid (upd R1 i (mapN (reportR c) 0 (R i)) = R1) := Lib.hid (by rw [mapN_zero, ← HA2.out i (Nat.le_refl i), upd_id])
      have HN := Lib.hid hn
      clear hn
      go_wp2
      go_loopw [5] (fun q w2 => ∃ j : Nat, j ≤ n ∧ q = .int .i64 j ∧ Hid (BookAt w2 bb ws D (upd R1 i (mapN (reportR c) j (R i)))) ∧ Rws ws w w2) (fun q _ => n - (intOf q).toNat)
      case atStart => exact ⟨0, by omega, rfl, Lib.hid (by rw [HR.out]; exact HB1.out), hT⟩
      case round =>
        clear hT HB1
        obtain ⟨j, hj, rfl, HB2, hT⟩ := hrel
        have j0 : (0 : Int) ≤ (j : Int) := by omega
        by_cases hjn : j < n
        · have j1 : (j : Int) < (n : Int) := by omega
          have hjl : j < (R i).length := by rw [HN.out]; exact hjn
          obtain ⟨g, off, cp, k1, k2, k3, k4, k5⟩ := HB2.out.mark hi (k := j) (r := (R i)[j]) (by rw [upd_same]; exact mapN_at hjl)
          rw [upd_same, mapN_len, HN.out] at k1
          have hcell := k4 (9 + c) (by omega)
          have hr : (recA (R i)[j])[9 + c]? = some (.bool ((R i)[j].sil c)) := by
            match c, hc with
            | 0, _ | 1, _ | 2, _ => rfl
          rw [hr, ← Nat.add_assoc] at hcell
          have hf := k3 (off + j * 17 + 9 + c)
          have HS := Lib.hid (k5 (9 + c) (.bool false) (reportR c (R i)[j]) (by omega) (recA_sil _ hc false))
          have HU : Hid (upd (upd R1 i (mapN (reportR c) j (R i))) i ((upd R1 i (mapN (reportR c) j (R i)) i).set j (reportR c (R i)[j])) = upd R1 i (mapN (reportR c) (j + 1) (R i))) := Lib.hid (by rw [upd_upd, upd_same, mapN_next hjl])
          have HG := Lib.hid k2
          clear k4 k5 hr k2 k3
          go_wp2
          go_roundw
          case rel => exact ⟨j + 1, by omega, by go_num, Lib.hid (by have h5 := HS.out; rw [HU.out, ← Nat.add_assoc] at h5; exact h5), hT.set HG.out _ _⟩
          case measure => simp [intOf]; omega
        · obtain rfl : j = n := by omega
          obtain ⟨A, cp, k1⟩ := HB2.out.rowLen hi
          rw [upd_same, mapN_len, HN.out] at k1
          go_wp2
          go_roundw
          case rel => exact ⟨i + 1, _, by omega, by go_num, HB2, Lib.hid (fun d hd => by
              by_cases e : d = i
              · subst e; rw [upd_same, mapN_all (by rw [HN.out]; exact Nat.le_refl _)]
              · rw [upd_ne _ _ e]; exact HA1.out d (by omega)), Lib.hid (fun d hd => by rw [upd_ne _ _ (by omega)]; exact HA2.out d (by omega)), hT⟩
          case measure => simp [intOf]; omega
    · obtain rfl : i = 3 := by omega
      go_wp2
      go_end0
      exact ⟨rfl, HB1.out.congr (fun d hd => (HA1.out d hd).symm), hT⟩
end

end Go.Proofs.Ytodaknidbdicdaa
