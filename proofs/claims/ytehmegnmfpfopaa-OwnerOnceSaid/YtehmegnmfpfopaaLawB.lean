/-
  OwnerOnce.
-/
import Derived.Test.YtehmegnmfpfopaaLawC
import Derived.WalkKit
import Derived.Deep.DeepMust
import Derived.WalkSpells
import Derived.WalkLawsBesides
import Derived.Handy
import Derived.Lib.Hide
import Derived.Deep.QuietTactic
import Derived.BigQuiet
namespace Go.Proofs.Ytehmegnmfpfopaa
open Go.RowKit

/-- The array [6][7]int: as the numbers G. -/
def arrV (G : Int → Int → Int) : Array Value := ((List.range 42).map fun (j : Nat) => Value.int .i64 (G ((j / 7 : Nat) : Int) ((j % 7 : Nat) : Int))).toArray
theorem arrV_at (G : Int → Int → Int) {s k : Nat} (hs : s < 6) (hk : k < 7) : (arrV G)[s * 7 + k]? = some (.int .i64 (G (s : Int) (k : Int))) := by
  unfold arrV
  rw [List.getElem?_toArray, List.getElem?_map, List.getElem?_range (by omega)]
  have e1 : (s * 7 + k) / 7 = s := by omega
  have e2 : (s * 7 + k) % 7 = k := by omega
  rw [Option.map_some, e1, e2]
theorem arrV_set (G : Int → Int → Int) {s k : Nat} (hs : s < 6) (hk : k < 7) (v : Int) : (arrV G).setIfInBounds (s * 7 + k) (.int .i64 v) = arrV (putF G (s : Int) (k : Int) v) := by
  unfold arrV
  apply Array.ext'
  rw [Array.toList_setIfInBounds]
  simp only
  apply List.ext_getElem?
  intro j
  rw [List.getElem?_set]
  by_cases hj : j < 42
  · rw [List.getElem?_map, List.getElem?_map, List.getElem?_range hj]
    by_cases e : s * 7 + k = j
    · subst e
      have e1 : (s * 7 + k) / 7 = s := by omega
      have e2 : (s * 7 + k) % 7 = k := by omega
      rw [if_pos rfl, if_pos (by simp; omega), Option.map_some, e1, e2]
      unfold putF
      rw [if_pos ⟨rfl, rfl⟩]
    · rw [if_neg e, Option.map_some, Option.map_some]
      unfold putF
      rw [if_neg (fun h => e (by omega))]
  · have n1 : ∀ f : Nat → Value, ((List.range 42).map f)[j]? = none := fun f => List.getElem?_eq_none (by simp; omega)
    rw [n1, n1]
    split
    · rename_i h; subst h; omega
    · rfl
def Arr (w : World) (p : Nat) (G : Int → Int → Int) : Prop := Blk w p 40 (arrV G)
section
variable {w w' : World} {p m : Nat} {G : Int → Int → Int} {s k : Nat}
theorem Arr.cell (h : Arr w p G) (hs : s < 6) (hk : k < 7) : w.cell? ⟨p, s * 7 + k, none⟩ = some (.int .i64 (G (s : Int) (k : Int))) := (Blk.cell h _).trans (arrV_at G hs hk)
theorem Arr.cellV {V : Int} (h : Arr w p G) (hs : s < 6) (hk : k < 7) (hV : G (s : Int) (k : Int) = V) : w.cell? ⟨p, s * 7 + k, none⟩ = some (.int .i64 V) := by rw [h.cell hs hk, hV]
theorem Arr.frz (h : Arr w p G) (j : Nat) : w.frozen? ⟨p, j, none⟩ = false := Blk.frozen h j
theorem Arr.set (h : Arr w p G) (hs : s < 6) (hk : k < 7) (v : Int) : Arr (w.setCell ⟨p, s * 7 + k, none⟩ (.int .i64 v)) p (putF G (s : Int) (k : Int) v) := by
  have h1 := Blk.set_ h (s * 7 + k) (.int .i64 v)
  rw [arrV_set G hs hk] at h1
  exact h1
theorem Arr.one (h : Arr w p G) (hT : One m w w') (hp : p ≠ m) : Arr w' p G := Blk.one h hT hp
theorem Arr.below (h : Arr w p G) (hb : Below w.heap.size w w') : Arr w' p G := Blk.below h hb
theorem Arr.lt (h : Arr w p G) : p < w.heap.size := Blk.lt h
theorem Arr.start (w : World) : Arr (w.alloc (.cells (arrV (fun _ _ => 0)) 40)) w.heap.size (fun _ _ => 0) := Blk.new w _ _
end
theorem arrV_zero : arrV (fun _ _ => 0) = #[Value.int .i64 0, Value.int .i64 0, Value.int .i64 0, Value.int .i64 0, Value.int .i64 0, Value.int .i64 0, Value.int .i64 0, Value.int .i64 0, Value.int .i64 0, Value.int .i64 0, Value.int .i64 0, Value.int .i64 0, Value.int .i64 0, Value.int .i64 0, Value.int .i64 0, Value.int .i64 0, Value.int .i64 0, Value.int .i64 0, Value.int .i64 0, Value.int .i64 0, Value.int .i64 0, Value.int .i64 0, Value.int .i64 0, Value.int .i64 0, Value.int .i64 0, Value.int .i64 0, Value.int .i64 0, Value.int .i64 0, Value.int .i64 0, Value.int .i64 0, Value.int .i64 0, Value.int .i64 0, Value.int .i64 0, Value.int .i64 0, Value.int .i64 0, Value.int .i64 0, Value.int .i64 0, Value.int .i64 0, Value.int .i64 0, Value.int .i64 0, Value.int .i64 0, Value.int .i64 0] := rfl
theorem OwnAt.far {w : World} {b m S O n : Nat} {F : Int → Int → Int} (h : OwnAt w b m S O n F) {p : Nat} (i : Nat) (u : Value) (h1 : b ≠ p) (h2 : m ≠ p) : OwnAt (w.setCell ⟨p, i, none⟩ u) b m S O n F :=
  h.other (One.set (One.refl p w) i u) h1 h2

def nzB (G : Int → Int → Int) (x y : Int) : Bool := decide (G x y ≠ 0)
def uptoB (G : Int → Int → Int) (n : Nat) (x y : Int) : Bool := decide (1 ≤ G x y ∧ G x y ≤ n)
theorem upto_zero {S O : Nat} {G : Int → Int → Int} : cntP S O (uptoB G 0) = 0 := cntP_zero fun x y _ _ _ _ => by unfold uptoB; exact decide_eq_false (by omega)
theorem upto_succ {S O : Nat} {G : Int → Int → Int} (n : Nat) : cntP S O (uptoB G (n + 1)) = cntP S O (uptoB G n) + cntF S O G ((n : Int) + 1) :=
  cntP_or (fun x y => by
    unfold uptoB isG
    rw [Bool.eq_iff_iff]
    simp
    omega) (fun x y h => by
    unfold uptoB at h
    have h := of_decide_eq_true h
    unfold isG
    exact decide_eq_false (by omega))
theorem upto_end {S O : Nat} {G : Int → Int → Int} (h : ∀ x y, G x y ≠ 0 → (0 ≤ x ∧ x < S ∧ 0 ≤ y ∧ y < O) ∧ 1 ≤ G x y ∧ G x y ≤ 16) : cntP S O (uptoB G 16) = rowsP (nzB G) O S := by
  rw [← cntP_rows]
  refine cntP_congr fun x y _ _ _ _ => ?_
  unfold uptoB nzB
  by_cases e : G x y = 0
  · rw [decide_eq_false (by omega), decide_eq_false (by omega)]
  · have := h x y e
    rw [decide_eq_true (by omega), decide_eq_true e]
theorem row_empty {S O : Nat} {G : Int → Int → Int} {a : Nat} (ha : a < S) : emptyF S O G (a : Int) = !decide (0 < rowP (nzB G) a O) := by
  unfold emptyF
  rw [decide_eq_true (show 0 ≤ (a : Int) ∧ (a : Int) < S by omega), Bool.true_and, Bool.eq_iff_iff, List.all_eq_true]
  unfold rowP
  constructor
  · intro h
    rw [List.countP_eq_zero.2 (fun i hi => by
      have := of_decide_eq_true (h i hi)
      unfold nzB
      simp [this])]
    rfl
  · intro h i hi
    have h0 : (List.range O).countP (fun (j : Nat) => nzB G (a : Int) (j : Int)) = 0 := by simpa using h
    have := List.countP_eq_zero.1 h0 i hi
    unfold nzB at this
    simpa using this
theorem of_b (w : World) (b m S O n : Nat) (F : Int → Int → Int) (h : OwnAt w b m S O n F) (x y : Int) (hx : w64 x) (hy : w64 y) (V : Int) (hV : F x y = V) :
    Calls Try.prog 18 #[.pointer (some ⟨b, 0, none⟩), .int .i64 x, .int .i64 y] w fun e w' => e = .returned (.int .i64 V) ∧ Below w.heap.size w w' := by
  subst hV
  exact (of_any w b m S O n F h x y hx hy).mono fun _ _ ⟨h1, h2⟩ => ⟨h1, by subst h2; exact Below.refl _ _⟩

set_option maxRecDepth 100000 in
set_option maxHeartbeats 4000000 in
theorem once_any (L : Nat) (F : Nat → Nat → Int) (A : Option Addr) (c : Nat) (hl : L ≤ maxLen) (w : World) (hA : Recs w A L 5 doK F) :
    Calls Try.prog 4 #[.slice A L c] w fun e w' => e = .returned (.bool true) ∧ Below w.heap.size w w' := by
  unfold maxLen at hl
  have HA := Lib.hid hA
  clear hA
  have hnew := fun v : World => (new_ok 6 7 (by omega) (by omega) (by omega) (by omega) v)
  go_enter Try.func4, Try.ntmps4
  go_wp2_with (first | (go_at_call 17; (with_reducible refine (works_any _).mono ?_); rintro e w0 ⟨rfl, hB⟩) | (go_at_call 7; refine (hnew _).mono ?_; rintro e w1 ⟨b, m, rfl, hb, hm, hO, hB1⟩; have hz := hB.size; replace hB := hB.trans (hB1.mono hz)))
  have hb1 := hO.blk.lt
  have hm1 := hO.map.lt
  have hz1 := hB.size
  replace hO := hO.below ((Below.refl _ _).alloc (Nat.le_refl _) (.cells (arrV (fun _ _ => 0)) 40))
  have hP := Arr.start w1
  replace hB := hB.alloc hz1 (.cells (arrV (fun _ _ => 0)) 40)
  clear hB1
  rw [arrV_zero] at hO hP hB
  have hbp : b ≠ w1.heap.size := by omega
  have hmp : m ≠ w1.heap.size := by omega
  have hpl : w.heap.size ≤ w1.heap.size := by omega
  have hbl : w.heap.size ≤ b := by omega
  have hml : w.heap.size ≤ m := by omega
  obtain ⟨p, hp⟩ : ∃ p, p = w1.heap.size := ⟨_, rfl⟩
  rw [← hp] at hbp hmp hpl hP ⊢
  clear hp hb1 hm1 hz1 hb hm
  go_loopw [6] (fun j wr => ∃ (k : Nat) (G : Int → Int → Int), k ≤ L ∧ k ≤ 150 ∧ j = .int .i64 k ∧ Hid (OwnAt wr b m 6 7 k G) ∧ Hid (Arr wr p G) ∧ Below w.heap.size w wr) (fun j _ => 150 - (intOf j).toNat)
  case atStart => exact ⟨0, _, by omega, by omega, rfl, Lib.hid hO, Lib.hid hP, hB⟩
  case round =>
    clear hO hB hnew hP hz
    obtain ⟨k, G, hkL, hk100, rfl, HO, HP, hB⟩ := hrel
    have k0 : (0 : Int) ≤ (k : Int) := by omega
    by_cases hlt : k < L ∧ k < 150
    · obtain ⟨hlt1, hlt2⟩ := hlt
      have k1 : (k : Int) < (L : Int) := by omega
      have k2 : (k : Int) < 150 := by omega
      obtain ⟨b0, off, rfl, K, X, I, Gr, T, -, d0, d1, d2, d3, d4, -⟩ := HA.out.five hB hlt1
      obtain ⟨s, hs⟩ : ∃ z : Nat, Hid (X % 6 = (z : Int)) := ⟨(X % 6).toNat, Lib.hid (by omega)⟩
      obtain ⟨i, hi⟩ : ∃ z : Nat, Hid (I % 7 = (z : Int)) := ⟨(I % 7).toNat, Lib.hid (by omega)⟩
      obtain ⟨g, hg⟩ : ∃ z, Hid (Gr % 16 = z) := ⟨_, Lib.hid rfl⟩
      obtain ⟨h, hh⟩ : ∃ z, Hid (T % 16 = z) := ⟨_, Lib.hid rfl⟩
      have s0 : (s : Int) < 6 := by rw [← hs.out]; omega
      have i0 : (i : Int) < 7 := by rw [← hi.out]; omega
      have g0 : 0 ≤ g ∧ g < 16 := by rw [← hg.out]; omega
      have h0 : 0 ≤ h ∧ h < 16 := by rw [← hh.out]; omega
      obtain ⟨g1, g2⟩ := g0
      obtain ⟨h1, h2⟩ := h0
      have s1 : (0 : Int) ≤ (s : Int) := by omega
      have i1 : (0 : Int) ≤ (i : Int) := by omega
      have ws := Lib.hid (w64_small (x := (s : Int)) (by omega) (by omega))
      have wi := Lib.hid (w64_small (x := (i : Int)) (by omega) (by omega))
      have wg := Lib.hid (w64_small (x := 1 + g) (by omega) (by omega))
      have hX := Blk.new wr 31 #[.int .i64 K, .int .i64 X, .int .i64 I, .int .i64 Gr, .int .i64 T]
      have hB1 := hB.alloc hB.size (.cells #[.int .i64 K, .int .i64 X, .int .i64 I, .int .i64 Gr, .int .i64 T] 31)
      have hO := HO.out.below ((Below.refl _ _).alloc (Nat.le_refl _) (.cells #[.int .i64 K, .int .i64 X, .int .i64 I, .int .i64 Gr, .int .i64 T] 31))
      have hP := HP.out.below ((Below.refl _ _).alloc (Nat.le_refl _) (.cells #[.int .i64 K, .int .i64 X, .int .i64 I, .int .i64 Gr, .int .i64 T] 31))
      have hpm : p ≠ m := hmp.symm
      have hXm : wr.heap.size ≠ m := by have := HO.out.map.lt; omega
      have hXp : wr.heap.size ≠ p := by have := HP.out.lt; omega
      go_wp2
      (refine wp_region_ext (wr.heap.size + 1) (by kernel_rfl) (by kernel_rfl) (by go_size) (fun hxc hxf hxh hxn => ?_); (repeat (first | go_big_quiet_step (first | (go_at_call 9; with_reducible exact ext_call (bring_k X 6 (s : Int) hs.out (by omega) (by omega) _)) | (go_at_call 9; with_reducible exact ext_call (bring_k I 7 (i : Int) hi.out (by omega) (by omega) _)) | (go_at_call 9; with_reducible exact ext_call (bring_k Gr 16 g hg.out (by omega) (by omega) _)) | (go_at_call 9; with_reducible exact ext_call (bring_k T 16 h hh.out (by omega) (by omega) _))) | quiet_step (first | (go_at_call 9; with_reducible exact ext_call (bring_k X 6 (s : Int) hs.out (by omega) (by omega) _)) | (go_at_call 9; with_reducible exact ext_call (bring_k I 7 (i : Int) hi.out (by omega) (by omega) _)) | (go_at_call 9; with_reducible exact ext_call (bring_k Gr 16 g hg.out (by omega) (by omega) _)) | (go_at_call 9; with_reducible exact ext_call (bring_k T 16 h hh.out (by omega) (by omega) _))))); refine wpQuiet_nil ?_; intro w1 hs1; clear hxc hxf hxh hxn; obtain ⟨hb1, hz1, hc1, hf1⟩ := ext_known hs1 (wr.heap.size + 1) (by go_size); clear hs1)
      have hB2 := Lib.hid (hB1.trans (hb1.mono hB1.size))
      have hX := hX.below hb1
      have hO := Lib.hid (hO.below hb1)
      have hP := Lib.hid (hP.below hb1)
      have x0 : w1.cell? ⟨wr.heap.size, 0, none⟩ = some (.int .i64 K) := hX.cell 0
      clear hB1 hb1 hz1 hc1 hf1 hX
      have HIN : 0 ≤ (s : Int) ∧ (s : Int) < (6 : Nat) ∧ 0 ≤ (i : Int) ∧ (i : Int) < (7 : Nat) := ⟨s1, s0, i1, i0⟩
      have hs6 : s < 6 := by omega
      have hi7 : i < 7 := by omega
      have gg : grpB (1 + g) = true := grpB_iff.2 ⟨by omega, by omega⟩
      have gh : grpB (1 + h) = true := grpB_iff.2 ⟨by omega, by omega⟩
      have HIn := Lib.hid HO.out.in_
      clear HO HP hB d0 d1 d2 d3 d4
      rcases (by omega : K % 3 = 0 ∨ K % 3 = 1 ∨ K % 3 = 2) with hK | hK | hK
      · have hK := Lib.hid hK
        by_cases hG : G (s : Int) (i : Int) = 0
        · have hE := Lib.hid (setE_ok HIN gg hG)
          have hF := Lib.hid (setF_ok hE.out)
          go_wp2_with (first | (go_at_call 9; (with_reducible refine (bring_any K 3 (by omega) (by omega) _).mono ?_); rintro e w0 ⟨rfl, hw0⟩; replace hw0 := hw0.symm; subst hw0; rw [hK.out]))
          have hO := hO.out.below (Below.refl _ _).drew
          have hP := hP.out.below (Below.refl _ _).drew
          have hB2 := hB2.out.drew
          have y0 := hP.cellV hs6 hi7 hG
          go_region_held3 (fun w' => w'.cell? ⟨p, s * 7 + i, none⟩ = some (.int .i64 0)) (exact y0) (first | (go_at_call 10; (with_reducible refine (set_any _ b m 6 7 k G hO (by omega) (s : Int) (i : Int) (1 + g) ws.out wi.out wg.out).mono ?_); rintro e w3 ⟨rfl, hN, hT⟩; rw [hF.out] at hN; rw [hE.out]; replace hB2 := hT.below hB2 hml hB2.size; replace hP := hP.one hT hpm; clear hT hO; have hO := hN; clear hN; have y0 := hP.cellV hs6 hi7 hG))
          all_goals (have y1 := hP.cellV hs6 hi7 hG; have f0 := hP.frz (s * 7 + i))
          all_goals go_wp2
          all_goals go_roundw
          all_goals (first | exact ⟨k + 1, _, by omega, by omega, by go_num, Lib.hid (hO.far _ _ hbp hmp), Lib.hid (hP.set hs6 hi7 _), hB2.setCell hpl _⟩ | (simp [intOf]; omega))
        · have hE := Lib.hid (setE_owned HIN gg hG)
          have hF := Lib.hid (setF_no (S := 6) (O := 7) (F := G) (x := (s : Int)) (y := (i : Int)) (g := 1 + g) (by rw [hE.out]; decide))
          obtain ⟨V, hV⟩ : ∃ V, Hid (G (s : Int) (i : Int) = V) := ⟨_, Lib.hid rfl⟩
          rw [hV.out] at hG
          go_wp2_with (first | (go_at_call 9; (with_reducible refine (bring_any K 3 (by omega) (by omega) _).mono ?_); rintro e w0 ⟨rfl, hw0⟩; replace hw0 := hw0.symm; subst hw0; rw [hK.out]))
          have hO := hO.out.below (Below.refl _ _).drew
          have hP := hP.out.below (Below.refl _ _).drew
          have hB2 := hB2.out.drew
          have y0 := hP.cellV hs6 hi7 hV.out
          go_region_held3 (fun w' => w'.cell? ⟨p, s * 7 + i, none⟩ = some (.int .i64 V)) (exact y0) (first | (go_at_call 10; (with_reducible refine (set_any _ b m 6 7 k G hO (by omega) (s : Int) (i : Int) (1 + g) ws.out wi.out wg.out).mono ?_); rintro e w3 ⟨rfl, hN, hT⟩; rw [hF.out] at hN; rw [hE.out]; replace hB2 := hT.below hB2 hml hB2.size; replace hP := hP.one hT hpm; clear hT hO; have hO := hN; clear hN; have y0 := hP.cellV hs6 hi7 hV.out))
          all_goals (have y1 := hP.cellV hs6 hi7 hV.out; have f0 := hP.frz (s * 7 + i))
          all_goals go_wp2
          all_goals go_roundw
          all_goals (first | exact ⟨k + 1, _, by omega, by omega, by go_num, Lib.hid hO, Lib.hid hP, hB2⟩ | (simp [intOf]; omega))
      · have hK := Lib.hid hK
        obtain ⟨V, hV⟩ : ∃ V, Hid (G (s : Int) (i : Int) = V) := ⟨_, Lib.hid rfl⟩
        rcases (by
            by_cases e : V = 0
            · exact Or.inl ⟨e, by rw [e] at hV; rw [clearE_none HIN hV.out]⟩
            · exact Or.inr ⟨by have := HIn.out (s : Int) (i : Int) (by rw [hV.out]; exact e); rw [hV.out] at this; omega, by rw [clearE_ok HIN (by rw [hV.out]; exact e)]⟩ : (V = 0 ∧ clearE 6 7 G (s : Int) (i : Int) = 140) ∨ (0 < V ∧ clearE 6 7 G (s : Int) (i : Int) = 0)) with ⟨hv, hE⟩ | ⟨hv, hE⟩
        all_goals
          have hE := Lib.hid hE
          go_wp2_with (first | (go_at_call 9; (with_reducible refine (bring_any K 3 (by omega) (by omega) _).mono ?_); rintro e w0 ⟨rfl, hw0⟩; replace hw0 := hw0.symm; subst hw0; rw [hK.out]) | (go_at_call 12; (with_reducible refine (clear_any _ b m 6 7 k G hO.out (s : Int) (i : Int) ws.out wi.out).mono ?_); rintro e w3 ⟨rfl, hN, hT⟩; rw [hE.out, hV.out]; have hB3 := hT.below hB2.out hml hB2.out.size; have hP3 := hP.out.one hT hpm; clear hT; have y0 := hP3.cellV hs6 hi7 hV.out; have f0 := hP3.frz (s * 7 + i)))
          go_roundw
          all_goals (first | exact ⟨k + 1, _, by omega, by omega, by go_num, Lib.hid ((hN.far _ _ hbp hmp).mono (by omega)), Lib.hid (hP3.set hs6 hi7 0), hB3.setCell hpl _⟩ | (simp [intOf]; omega))
      · have hK := Lib.hid hK
        have hM := Lib.hid (show movedF G (1 + g) (1 + h) = moveF G (1 + g) (1 + h) by unfold movedF; rw [gg, gh]; rfl)
        obtain ⟨f, hf⟩ : ∃ z, Hid (1 + g = z) := ⟨_, Lib.hid rfl⟩
        obtain ⟨t, ht⟩ : ∃ z, Hid (1 + h = z) := ⟨_, Lib.hid rfl⟩
        have hf0 : f ≠ 0 := by rw [← hf.out]; omega
        have hFin : ∀ x y, G x y ≠ 0 → (0 ≤ x ∧ x < (6 : Nat) ∧ 0 ≤ y ∧ y < (7 : Nat)) := fun x y e => (HIn.out x y e).1
        have P0 := Lib.hid (part_start (t := t) hFin hf0)
        have PR := Lib.hid (part_row (t := t) hFin hf0)
        have PE := Lib.hid (part_end (t := t) hFin hf0)
        clear hFin
        go_wp2_with (first | (go_at_call 9; (with_reducible refine (bring_any K 3 (by omega) (by omega) _).mono ?_); rintro e w0 ⟨rfl, hw0⟩; replace hw0 := hw0.symm; subst hw0; rw [hK.out]) | (go_at_call 14; (with_reducible refine (move_any _ b m 6 7 k G hO.out (by omega) (1 + g) (1 + h)).mono ?_); rintro e w3 ⟨rfl, hN, hT⟩; rw [hM.out] at hN; have hB3 := hT.below hB2.out hml hB2.out.size; have hP3 := hP.out.one hT hpm; clear hT))
        rw [hf.out, ht.out]
        rw [hf.out, ht.out] at hN
        go_loopw [14] (fun q w2 => ∃ a : Nat, a ≤ 6 ∧ q = .int .i64 a ∧ Hid (Arr w2 p (partF G f t a 0)) ∧ Hid (OwnAt w2 b m 6 7 k (moveF G f t)) ∧ Below w.heap.size w w2) (fun q _ => 6 - (intOf q).toNat)
        case atStart => exact ⟨0, by omega, rfl, Lib.hid (by rw [P0.out]; exact hP3), Lib.hid hN, hB3⟩
        case round =>
          clear hP3 hN hB3 hP hO hB2 P0
          obtain ⟨a, ha, rfl, HP, HO, HB⟩ := hrel
          have a0 : (0 : Int) ≤ (a : Int) := by omega
          by_cases ha6 : a < 6
          · have a1 : (a : Int) < 6 := by omega
            go_wp2
            go_loopw [15] (fun q w2 => ∃ d : Nat, d ≤ 7 ∧ q = .int .i64 d ∧ Hid (Arr w2 p (partF G f t a d)) ∧ Hid (OwnAt w2 b m 6 7 k (moveF G f t)) ∧ Below w.heap.size w w2) (fun q _ => 7 - (intOf q).toNat)
            case atStart => exact ⟨0, by omega, rfl, HP, HO, HB⟩
            case round =>
              clear HP HO HB
              obtain ⟨d, hd, rfl, HP, HO, HB⟩ := hrel
              have d0 : (0 : Int) ≤ (d : Int) := by omega
              by_cases hd7 : d < 7
              · have d1 : (d : Int) < 7 := by omega
                have y0 := HP.out.cellV ha6 hd7 part_at
                have f0 := HP.out.frz (a * 7 + d)
                by_cases he : G (a : Int) (d : Int) = f
                · rw [he] at y0
                  go_wp2
                  go_roundw
                  case rel => exact ⟨d + 1, by omega, by go_num, Lib.hid (by rw [← part_hit he]; exact HP.out.set ha6 hd7 t), Lib.hid (HO.out.far _ _ hbp hmp), HB.setCell hpl _⟩
                  case measure => simp [intOf]; omega
                · go_wp2
                  go_roundw
                  case rel => exact ⟨d + 1, by omega, by go_num, Lib.hid (by rw [← part_miss he]; exact HP.out), HO, HB⟩
                  case measure => simp [intOf]; omega
              · have d1 : ¬ (d : Int) < 7 := by omega
                obtain rfl : d = 7 := by omega
                go_wp2
                go_roundw
                case rel => exact ⟨a + 1, by omega, by go_num, Lib.hid (by rw [← PR.out]; exact HP.out), HO, HB⟩
                case measure => simp [intOf]; omega
          · have a1 : ¬ (a : Int) < 6 := by omega
            obtain rfl : a = 6 := by omega
            go_wp2
            go_roundw
            case rel => exact ⟨k + 1, _, by omega, by omega, by go_num, Lib.hid (HO.out.mono (by omega)), Lib.hid (by rw [← PE.out]; exact HP.out), HB⟩
            case measure => simp [intOf]; omega
    · have HIn := Lib.hid HO.out.in_
      have hEnd := Lib.hid (upto_end HO.out.in_)
      obtain ⟨nz, hnz⟩ : ∃ z, Hid (nzB G = z) := ⟨_, Lib.hid rfl⟩
      rw [hnz.out] at hEnd
      have hpw := HP.out.lt
      rcases (by omega : (¬ (k : Int) < (L : Int)) ∨ ((k : Int) < (L : Int) ∧ ¬ (k : Int) < 150)) with e1 | ⟨e1, e2⟩
      all_goals
        clear HA hlt
        go_wp2
        go_loopw [16, 18] (fun q1 q2 w2 => ∃ a : Nat, a ≤ 6 ∧ q2 = .int .i64 a ∧ q1 = .int .i64 (rowsP nz 7 a : Int) ∧ Hid (Arr w2 p G) ∧ Hid (OwnAt w2 b m 6 7 k G) ∧ Below w.heap.size w w2) (fun _ q2 _ => 6 - (intOf q2).toNat)
        case atStart => exact ⟨0, by omega, rfl, by rw [rowsP_zero]; rfl, HP, HO, hB⟩
        case round =>
          clear HP HO hB hpw
          obtain ⟨a, ha, rfl, rfl, HP, HO, HB⟩ := hrel
          have a0 : (0 : Int) ≤ (a : Int) := by omega
          have hpw := HP.out.lt
          by_cases ha6 : a < 6
          · have a1 : (a : Int) < 6 := by omega
            have wa := Lib.hid (w64_small (x := (a : Int)) (by omega) (by omega))
            have hsm := rowsP_small nz (O := 7) (s := a) (by omega) (by omega)
            obtain ⟨N, hN⟩ : ∃ N, Hid (rowsP nz 7 a = N) := ⟨_, Lib.hid rfl⟩
            rw [hN.out] at hsm ⊢
            go_wp2
            go_loopw [16, 19, 20] (fun q1 q2 q3 w2 => ∃ (d : Nat) (e : Bool), d ≤ 7 ∧ q3 = .int .i64 d ∧ q1 = .int .i64 ((N + rowP nz a d : Nat) : Int) ∧ q2 = .bool e ∧ Hid (e = decide (0 < rowP nz a d)) ∧ Hid (Arr w2 p G) ∧ Hid (OwnAt w2 b m 6 7 k G) ∧ Below w.heap.size w w2) (fun _ _ q3 _ => 7 - (intOf q3).toNat)
            case atStart => exact ⟨0, false, by omega, rfl, by rw [rowP_zero]; rfl, rfl, Lib.hid (by rw [rowP_zero]; rfl), HP, HO, HB⟩
            case round =>
              clear HP HO HB hpw
              obtain ⟨d, e, hd, rfl, rfl, rfl, hE, HP, HO, HB⟩ := hrel
              have hpw := HP.out.lt
              have d0 : (0 : Int) ≤ (d : Int) := by omega
              have hrl := rowP_le nz a d
              by_cases hd7 : d < 7
              · have d1 : (d : Int) < 7 := by omega
                have wd := Lib.hid (w64_small (x := (d : Int)) (by omega) (by omega))
                obtain ⟨V, hV⟩ : ∃ V, Hid (G (a : Int) (d : Int) = V) := ⟨_, Lib.hid rfl⟩
                have y0 := HP.out.cellV ha6 hd7 hV.out
                have hst := rowP_succ nz a d
                obtain ⟨M, hM⟩ : ∃ M, Hid (rowP nz a d = M) := ⟨_, Lib.hid rfl⟩
                rw [hM.out] at hst hrl hE ⊢
                rcases (by
                  by_cases e : V = 0
                  · exact Or.inl e
                  · exact Or.inr (by have := HIn.out (a : Int) (d : Int) (by rw [hV.out]; exact e); rw [hV.out] at this; omega) : V = 0 ∨ 0 < V) with hv | hv
                · have hpt : nz (a : Int) (d : Int) = false := by rw [← hnz.out]; unfold nzB; rw [hV.out, hv]; rfl
                  rw [hpt, if_neg (by simp)] at hst
                  go_wp2
                  (refine wp_region_ext (wr.heap.size) (by kernel_rfl) (by kernel_rfl) (by go_size) (fun hxc hxf hxh hxn => ?_); (repeat (first | go_big_quiet_step (first | (go_at_call 18; with_reducible exact ext_call (of_b _ b m 6 7 k G (HO.out.below (Ext.below _)) (a : Int) (d : Int) wa.out wd.out V hV.out))) | quiet_step (first | (go_at_call 18; with_reducible exact ext_call (of_b _ b m 6 7 k G (HO.out.below (Ext.below _)) (a : Int) (d : Int) wa.out wd.out V hV.out))))); refine wpQuiet_nil ?_; intro w1 hs1; clear hxc hxf hxh hxn; obtain ⟨hb1, hz1, hc1, hf1⟩ := ext_known hs1 (wr.heap.size) (by go_size); clear hs1)
                  have y1 := (hc1 p (a * 7 + d) hpw).trans y0
                  go_wp2
                  go_roundw
                  case rel => exact ⟨d + 1, e, by omega, by go_num, by rw [hst]; rfl, rfl, Lib.hid (by rw [hst]; exact hE), Lib.hid (HP.out.below hb1), Lib.hid (HO.out.below hb1), HB.trans (hb1.mono HB.size)⟩
                  case measure => simp [intOf]; omega
                · have hpt : nz (a : Int) (d : Int) = true := by rw [← hnz.out]; unfold nzB; rw [hV.out]; exact decide_eq_true (by omega)
                  rw [hpt, if_pos rfl] at hst
                  go_wp2
                  (refine wp_region_ext (wr.heap.size) (by kernel_rfl) (by kernel_rfl) (by go_size) (fun hxc hxf hxh hxn => ?_); (repeat (first | go_big_quiet_step (first | (go_at_call 18; with_reducible exact ext_call (of_b _ b m 6 7 k G (HO.out.below (Ext.below _)) (a : Int) (d : Int) wa.out wd.out V hV.out))) | quiet_step (first | (go_at_call 18; with_reducible exact ext_call (of_b _ b m 6 7 k G (HO.out.below (Ext.below _)) (a : Int) (d : Int) wa.out wd.out V hV.out))))); refine wpQuiet_nil ?_; intro w1 hs1; clear hxc hxf hxh hxn; obtain ⟨hb1, hz1, hc1, hf1⟩ := ext_known hs1 (wr.heap.size) (by go_size); clear hs1)
                  have y1 := (hc1 p (a * 7 + d) hpw).trans y0
                  go_wp2
                  go_roundw
                  case rel => exact ⟨d + 1, true, by omega, by go_num, by rw [hst]; go_num, rfl, Lib.hid (by rw [hst]; simp), Lib.hid (HP.out.below hb1), Lib.hid (HO.out.below hb1), HB.trans (hb1.mono HB.size)⟩
                  case measure => simp [intOf]; omega
              · have d1 : ¬ (d : Int) < 7 := by omega
                obtain rfl : d = 7 := by omega
                have hnx := rowsP_succ nz 7 a
                rw [hN.out] at hnx
                have hEm := Lib.hid (row_empty (O := 7) (G := G) ha6)
                rw [hnz.out, ← hE.out] at hEm
                clear hE hrl
                cases e with
                | false =>
                  go_wp2_with (first | (go_at_call 19; (with_reducible refine (empty_any _ b m 6 7 k G HO.out (a : Int) wa.out).mono ?_); rintro e w3 ⟨rfl, hb3⟩; rw [show emptyF 6 7 G (a : Int) = true from hEm.out]))
                  go_roundw
                  case rel => exact ⟨a + 1, by omega, by go_num, by rw [hnx]; go_num, Lib.hid (HP.out.below hb3), Lib.hid (HO.out.below hb3), HB.trans (hb3.mono HB.size)⟩
                  case measure => simp [intOf]; omega
                | true =>
                  go_wp2_with (first | (go_at_call 19; (with_reducible refine (empty_any _ b m 6 7 k G HO.out (a : Int) wa.out).mono ?_); rintro e w3 ⟨rfl, hb3⟩; rw [show emptyF 6 7 G (a : Int) = false from hEm.out]))
                  go_roundw
                  case rel => exact ⟨a + 1, by omega, by go_num, by rw [hnx]; go_num, Lib.hid (HP.out.below hb3), Lib.hid (HO.out.below hb3), HB.trans (hb3.mono HB.size)⟩
                  case measure => simp [intOf]; omega
          · have a1 : ¬ (a : Int) < 6 := by omega
            obtain rfl : a = 6 := by omega
            obtain ⟨N, hN⟩ : ∃ N, Hid (rowsP nz 7 6 = N) := ⟨_, Lib.hid rfl⟩
            rw [hN.out] at hEnd ⊢
            clear hpw HP
            go_wp2
            go_loopw [17, 21] (fun q1 q2 w2 => ∃ g : Nat, g ≤ 16 ∧ q2 = .int .i64 ((g : Int) + 1) ∧ q1 = .int .i64 ((cntP 6 7 (uptoB G g) : Nat) : Int) ∧ Hid (OwnAt w2 b m 6 7 k G) ∧ Below w.heap.size w w2) (fun _ q2 _ => 17 - (intOf q2).toNat)
            case atStart => exact ⟨0, by omega, rfl, by rw [upto_zero]; rfl, HO, HB⟩
            case round =>
              clear HO HB
              obtain ⟨g, hg, rfl, rfl, HO, HB⟩ := hrel
              have g0 : (0 : Int) ≤ (g : Int) := by omega
              have hsuc := upto_succ (S := 6) (O := 7) (G := G) g
              have hle := cntP_le 6 7 (uptoB G g)
              obtain ⟨M, hM⟩ : ∃ M, Hid (cntP 6 7 (uptoB G g) = M) := ⟨_, Lib.hid rfl⟩
              rw [hM.out] at hsuc hle ⊢
              by_cases hg16 : g < 16
              · have g1 : (g : Int) + 1 < 17 := by omega
                have hcl := cntF_le (S := 6) (O := 7) (by omega) (by omega) G ((g : Int) + 1)
                obtain ⟨C, hC⟩ : ∃ C, Hid (cntF 6 7 G ((g : Int) + 1) = C) := ⟨_, Lib.hid rfl⟩
                rw [hC.out] at hsuc hcl
                go_wp2_with (first | (go_at_call 20; (with_reducible refine (count_any _ b m 6 7 k G HO.out ((g : Int) + 1)).mono ?_); rintro e w3 ⟨rfl, hb3⟩; rw [hC.out]))
                go_roundw
                case rel => exact ⟨g + 1, by omega, by go_num, by rw [hsuc]; go_num, Lib.hid (HO.out.below hb3), HB.trans (hb3.mono HB.size)⟩
                case measure => simp [intOf]; omega
              · obtain rfl : g = 16 := by omega
                have hMN : M = N := by rw [← hM.out]; exact hEnd.out
                subst hMN
                go_wp2
                go_ret
                exact ⟨rfl, HB⟩

end Go.Proofs.Ytehmegnmfpfopaa
