/-
  Count, Empty, Move: the loops over the map.
-/
import Derived.Test.YtehmegnmfpfopaaWalkB
import Derived.Test.YtehmegnmfpfopaaPlain
import Derived.WalkKit
import Derived.Deep.DeepMust
import Derived.WalkSpells
import Derived.WalkLawsBesides
import Derived.Handy
import Derived.Lib.Hide
import Derived.Deep.QuietTactic
import Derived.BigQuiet
namespace Go.Proofs.Ytehmegnmfpfopaa
open Go.RowKit

def isG (F : Int → Int → Int) (g : Int) (x y : Int) : Bool := decide (F x y ≠ 0 ∧ F x y = g)
def cntF (S O : Nat) (F : Int → Int → Int) (g : Int) : Nat := cntP S O (isG F g)
theorem cntF_le {S O : Nat} (hS : S ≤ 256) (hO : O ≤ 16) (F : Int → Int → Int) (g : Int) : cntF S O F g ≤ 4096 :=
  Nat.le_trans (cntP_le S O _) (Nat.le_trans (Nat.mul_le_mul hS hO) (by omega))
/-- Of those, who has come. -/
def cameG (F : Int → Int → Int) (left : Int → Int → Bool) (g : Int) (x y : Int) : Bool := isG F g x y && !left x y
theorem came_le {S O : Nat} (hS : S ≤ 256) (hO : O ≤ 16) (p : Int → Int → Bool) : cntP S O p ≤ 4096 :=
  Nat.le_trans (cntP_le S O _) (Nat.le_trans (Nat.mul_le_mul hS hO) (by omega))
theorem came_start {S O : Nat} {F : Int → Int → Int} {g : Int} : cntP S O (cameG F (fun x y => decide (F x y ≠ 0)) g) = 0 :=
  cntP_zero fun x y _ _ _ _ => by
    unfold cameG isG
    by_cases h : F x y = 0 <;> simp [h]
theorem came_end {S O : Nat} (hS : S ≤ 256) (hO : O ≤ 16) {F : Int → Int → Int} {left : Int → Int → Bool} {g : Int} (h : ∀ x y, w64 x → w64 y → left x y = false) : cntP S O (cameG F left g) = cntF S O F g :=
  cntP_congr fun x y h1 h2 h3 h4 => by
    unfold cameG
    rw [h x y (w64_iff.2 (by omega)) (w64_iff.2 (by omega))]
    simp
theorem came_yes {S O : Nat} {F : Int → Int → Int} {left : Int → Int → Bool} {g X Y : Int} (hX : 0 ≤ X ∧ X < S ∧ 0 ≤ Y ∧ Y < O) (hl : left X Y = true) (hF : F X Y ≠ 0) (hg : F X Y = g) :
    cntP S O (cameG F (strike left X Y) g) = cntP S O (cameG F left g) + 1 :=
  cntP_one hX (by unfold cameG; rw [hl]; simp) (by unfold cameG isG strike; rw [hl, decide_eq_true ⟨hF, hg⟩]; simp) fun x y hne => by unfold cameG strike; rw [decide_eq_false hne]; simp
theorem came_no {S O : Nat} {F : Int → Int → Int} {left : Int → Int → Bool} {g X Y : Int} (hg : F X Y ≠ g) :
    cntP S O (cameG F (strike left X Y) g) = cntP S O (cameG F left g) :=
  cntP_congr fun x y _ _ _ _ => by
    unfold cameG strike
    by_cases e : x = X ∧ y = Y
    · obtain ⟨rfl, rfl⟩ := e
      have : isG F g x y = false := decide_eq_false (fun h => hg h.2)
      rw [this]; simp
    · rw [decide_eq_false e]; simp

set_option maxRecDepth 100000 in
set_option maxHeartbeats 2000000 in
theorem count_any (w : World) (b m S O n : Nat) (F : Int → Int → Int) (h : OwnAt w b m S O n F) (g : Int) :
    Calls Try.prog 20 #[.pointer (some ⟨b, 0, none⟩), .int .i64 g] w fun e w' => e = .returned (.int .i64 (cntF S O F g : Int)) ∧ Below w.heap.size w w' := by
  have hB := h.blk
  have c2 : w.cell? ⟨b, 2, none⟩ = some (.map (some m)) := h.blk.cell 2
  have hm := h.map
  have hlm := h.map.lt
  have h1 := h.s2
  have h2 := h.o2
  have HI := Lib.hid h.in_
  clear h
  go_enter Try.func20, Try.ntmps20
  go_wp2_with (first | (go_at_call 25; (with_reducible refine (none_any _ b m S O hB).mono ?_); rintro e wq ⟨rfl, hwq⟩; replace hwq := hwq.symm; subst hwq) | (at_range; refine wpList_range rfl _ rfl rfl hm ?_; intro w0 cnt0 hrg0 hb0 hs0))
  go_frame
  go_loopw [4, 6] (fun q _ wr => ∃ left cnt, RangeF wr m w.heap.size n F left cnt ∧ q = .int .i64 (cntP S O (cameG F left g) : Int) ∧ Below w.heap.size w wr) (fun _ _ wr => wr.rangeLeft m w.heap.size)
  case atStart => exact ⟨_, _, hrg0, by rw [came_start]; rfl, hb0⟩
  case round =>
    clear hrg0 hb0 hs0
    obtain ⟨left, cnt, hrg, rfl, hb⟩ := hrel
    have hle := came_le h1 h2 (cameG F left g)
    obtain ⟨c, hc⟩ : ∃ c, Hid (cntP S O (cameG F left g) = c) := ⟨_, Lib.hid rfl⟩
    rw [hc.out] at hle ⊢
    go_wp2_with (first | (at_next; refine wpList_next rfl _ rfl rfl hrg ?_ ?_))
    · intro hl
      go_wp2
      go_ret
      exact ⟨by rw [← came_end h1 h2 hl, hc.out]; rfl, hb⟩
    · intro X Y w1 cnt1 hX hY hl hrg1 hlt hg1 hs1 hen
      have hF := hrg.there hX hY hl
      have hin := (HI.out X Y hF).1
      have hb1 := below_grown hb hg1 hb.size (fun j hj => by cases hj; exact Nat.le_refl _)
      by_cases hg : F X Y = g
      · have hst := came_yes (g := g) hin hl hF hg
        rw [hc.out] at hst
        go_wp2
        go_roundw
        case rel => exact ⟨_, cnt1, hrg1, by rw [hst]; go_num, hb1⟩
        case measure => rw [hrg1.left_eq, hrg.left_eq]; exact hlt
      · have hst := came_no (S := S) (O := O) (left := left) hg
        rw [hc.out] at hst
        go_wp2
        go_roundw
        case rel => exact ⟨_, cnt1, hrg1, by rw [hst], hb1⟩
        case measure => rw [hrg1.left_eq, hrg.left_eq]; exact hlt

def emptyF (S O : Nat) (F : Int → Int → Int) (s : Int) : Bool := decide (0 ≤ s ∧ s < S) && (List.range O).all fun (i : Nat) => decide (F s (i : Int) = 0)
theorem emptyF_out {S O : Nat} {F : Int → Int → Int} {s : Int} (h : ¬ (0 ≤ s ∧ s < S)) : emptyF S O F s = false := by unfold emptyF; rw [decide_eq_false h]; rfl
theorem emptyF_no {S O : Nat} {F : Int → Int → Int} {s y : Int} (h : 0 ≤ y ∧ y < O) (hF : F s y ≠ 0) : emptyF S O F s = false := by
  unfold emptyF
  rw [Bool.and_eq_false_iff]
  refine .inr (List.all_eq_false.2 ⟨y.toNat, List.mem_range.2 (by omega), ?_⟩)
  rw [show ((y.toNat : Nat) : Int) = y by omega]
  simpa using hF
theorem emptyF_yes {S O : Nat} {F : Int → Int → Int} {s : Int} (h : 0 ≤ s ∧ s < S) (hF : ∀ y : Int, 0 ≤ y → y < O → F s y = 0) : emptyF S O F s = true := by
  unfold emptyF
  rw [decide_eq_true h, Bool.true_and, List.all_eq_true]
  intro i hi
  have := List.mem_range.1 hi
  exact decide_eq_true (hF i (by omega) (by omega))
theorem strike_other {left : Int → Int → Bool} {X Y x y : Int} (h : ¬ (x = X ∧ y = Y)) : strike left X Y x y = left x y := by unfold strike; rw [decide_eq_false h]; simp
theorem strike_same {left : Int → Int → Bool} {X Y : Int} : strike left X Y X Y = false := by unfold strike; simp

set_option maxRecDepth 100000 in
set_option maxHeartbeats 2000000 in
theorem empty_any (w : World) (b m S O n : Nat) (F : Int → Int → Int) (h : OwnAt w b m S O n F) (s : Int) (hs64 : w64 s) :
    Calls Try.prog 19 #[.pointer (some ⟨b, 0, none⟩), .int .i64 s] w fun e w' => e = .returned (.bool (emptyF S O F s)) ∧ Below w.heap.size w w' := by
  have H := Lib.hid h
  have ho := h.o1
  clear h
  by_cases hin : 0 ≤ s ∧ s < S
  · have e0 : Hid (askF S O s 0 = 0) := Lib.hid (askF_yes ⟨hin.1, hin.2, by omega, by omega⟩)
    go_enter Try.func19, Try.ntmps19
    go_wp2_with (first | (go_at_call 21; (with_reducible refine (asked_any _ b m S O n F H.out s 0).mono ?_); rintro e wa ⟨rfl, hba⟩; rw [e0.out]; have hza := hba.size; have hOa := H.out.below hba; have c2 : wa.cell? ⟨b, 2, none⟩ = some (.map (some m)) := hOa.blk.cell 2; have hm := hOa.map) | (at_range; refine wpList_range rfl _ rfl rfl hm ?_; intro w0 cnt0 hrg0 hb0 hs0))
    go_frame
    have hb0' := hba.trans (hb0.mono hza)
    go_loopw [5] (fun _ wr => ∃ left cnt, RangeF wr m wa.heap.size n F left cnt ∧ (∀ y, w64 y → F s y ≠ 0 → left s y = true) ∧ Below w.heap.size w wr) (fun _ wr => wr.rangeLeft m wa.heap.size)
    case atStart => exact ⟨_, _, hrg0, fun y _ hy => decide_eq_true hy, hb0'⟩
    case round =>
      clear hrg0 hb0 hs0 hb0' c2 hm hOa
      obtain ⟨left, cnt, hrg, hst, hb⟩ := hrel
      go_wp2_with (first | (at_next; refine wpList_next rfl _ rfl rfl hrg ?_ ?_))
      · intro hl
        have hE := emptyF_yes (O := O) (F := F) hin (fun y h1 h2 => by
          have h16 := H.out.o2
          have hy : w64 y := w64_iff.2 (by omega)
          rcases Classical.em (F s y = 0) with h3 | h3
          · exact h3
          · have h4 := hst y hy h3
            rw [hl s y hs64 hy] at h4
            cases h4)
        go_wp2
        go_ret
        exact ⟨by rw [hE]; rfl, hb⟩
      · intro X Y w1 cnt1 hX hY hl hrg1 hlt hg1 hs1 hen
        have hF := hrg.there hX hY hl
        have hXY := (H.out.in_ X Y hF).1
        have hb1 := below_grown hb hg1 hb.size (fun j hj => by cases hj; exact hza)
        have hz1 := hb1.size
        by_cases hg : X = s
        · subst hg
          have hE := emptyF_no (S := S) ⟨hXY.2.2.1, hXY.2.2.2⟩ hF
          go_wp2
          go_ret
          exact ⟨by rw [hE]; rfl, hb1.alloc hz1 _⟩
        · go_wp2
          go_roundw
          case rel => exact ⟨_, cnt1, hrg1.alloc _, fun y hy h3 => by rw [strike_other (fun e => hg e.1.symm)]; exact hst y hy h3, hb1.alloc hz1 _⟩
          case measure => rw [(hrg1.alloc _).left_eq, hrg.left_eq]; exact hlt
  · have e9 : Hid (askF S O s 0 = 9) := Lib.hid (askF_no (fun h => hin ⟨h.1, h.2.1⟩))
    rw [emptyF_out hin]
    go_enter Try.func19, Try.ntmps19
    go_wp2_with (first | (go_at_call 21; (with_reducible refine (asked_any _ b m S O n F H.out s 0).mono ?_); rintro e wa ⟨rfl, hba⟩; rw [e9.out]))
    go_ret
    exact ⟨rfl, hba⟩

end Go.Proofs.Ytehmegnmfpfopaa
