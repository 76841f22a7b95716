/-
  Set, Clear, Of.
-/
import Derived.Test.YtehmegnmfpfopaaWalkA
import Derived.WalkKit
import Derived.Deep.DeepMust
import Derived.WalkSpells
import Derived.WalkLawsBesides
import Derived.Handy
import Derived.Lib.Hide
import Derived.Deep.QuietTactic
import Derived.BigQuiet
namespace Go.Proofs.Ytehmegnmfpfopaa
open Go.RowKit

def setE (S O : Nat) (F : Int → Int → Int) (x y g : Int) : Int := bif decide (0 ≤ x ∧ x < S ∧ 0 ≤ y ∧ y < O) then (bif grpB g then (bif decide (F x y = 0) then 0 else 140) else 110) else 9
def setF (S O : Nat) (F : Int → Int → Int) (x y g : Int) : Int → Int → Int := bif decide (setE S O F x y g = 0) then putF F x y g else F
theorem setE_out {S O : Nat} {F : Int → Int → Int} {x y g : Int} (h : ¬ (0 ≤ x ∧ x < S ∧ 0 ≤ y ∧ y < O)) : setE S O F x y g = 9 := by unfold setE; rw [decide_eq_false h]; rfl
theorem setE_no {S O : Nat} {F : Int → Int → Int} {x y g : Int} (h : 0 ≤ x ∧ x < S ∧ 0 ≤ y ∧ y < O) (h2 : grpB g = false) : setE S O F x y g = 110 := by unfold setE; rw [decide_eq_true h, h2]; rfl
theorem setE_owned {S O : Nat} {F : Int → Int → Int} {x y g : Int} (h : 0 ≤ x ∧ x < S ∧ 0 ≤ y ∧ y < O) (h2 : grpB g = true) (h3 : F x y ≠ 0) : setE S O F x y g = 140 := by unfold setE; rw [decide_eq_true h, h2, decide_eq_false h3]; rfl
theorem setE_ok {S O : Nat} {F : Int → Int → Int} {x y g : Int} (h : 0 ≤ x ∧ x < S ∧ 0 ≤ y ∧ y < O) (h2 : grpB g = true) (h3 : F x y = 0) : setE S O F x y g = 0 := by unfold setE; rw [decide_eq_true h, h2, decide_eq_true h3]; rfl
theorem setF_no {S O : Nat} {F : Int → Int → Int} {x y g : Int} (h : setE S O F x y g ≠ 0) : setF S O F x y g = F := by unfold setF; rw [decide_eq_false h]; rfl
theorem setF_ok {S O : Nat} {F : Int → Int → Int} {x y g : Int} (h : setE S O F x y g = 0) : setF S O F x y g = putF F x y g := by unfold setF; rw [decide_eq_true h]; rfl
theorem grpB_iff {g : Int} : grpB g = true ↔ 1 ≤ g ∧ g ≤ 16 := by simp [grpB]

section
variable {w w' : World} {b m S O n : Nat} {F : Int → Int → Int}
theorem OwnAt.put (h : OwnAt w b m S O n F) {x y g : Int} (hx : 0 ≤ x ∧ x < S ∧ 0 ≤ y ∧ y < O) (hg : 1 ≤ g ∧ g ≤ 16) {n' : Nat} (hm : MapF w' m n' (putF F x y g)) (hT : One m w w') : OwnAt w' b m S O n' (putF F x y g) :=
  ⟨h.blk.one hT h.ne, hm, h.s1, h.s2, h.o1, h.o2, fun a c hac => by
    unfold putF at hac ⊢
    by_cases e : a = x ∧ c = y
    · rw [if_pos e, e.1, e.2]; exact ⟨hx, hg⟩
    · rw [if_neg e] at hac ⊢; exact h.in_ a c hac⟩
theorem OwnAt.del (h : OwnAt w b m S O n F) {x y : Int} {n' : Nat} (hm : MapF w' m n' (putF F x y 0)) (hT : One m w w') : OwnAt w' b m S O n' (putF F x y 0) :=
  ⟨h.blk.one hT h.ne, hm, h.s1, h.s2, h.o1, h.o2, fun a c hac => by
    unfold putF at hac ⊢
    by_cases e : a = x ∧ c = y
    · rw [if_pos e] at hac; exact absurd rfl hac
    · rw [if_neg e] at hac ⊢; exact h.in_ a c hac⟩
end

set_option maxRecDepth 100000 in
set_option maxHeartbeats 2000000 in
theorem set_any (w : World) (b m S O n : Nat) (F : Int → Int → Int) (h : OwnAt w b m S O n F) (hn : n < 1000) (x y g : Int) (hx : w64 x) (hy : w64 y) (hg : w64 g) :
    Calls Try.prog 10 #[.pointer (some ⟨b, 0, none⟩), .int .i64 x, .int .i64 y, .int .i64 g] w fun e w' => e = .returned (.int .i64 (setE S O F x y g)) ∧ OwnAt w' b m S O (n + 1) (setF S O F x y g) ∧ One m w w' := by
  have hblk := h.blk.lt
  have hmlt := h.map.lt
  by_cases hin : 0 ≤ x ∧ x < S ∧ 0 ≤ y ∧ y < O
  · have e0 : Hid (askF S O x y = 0) := Lib.hid (askF_yes hin)
    have H := Lib.hid h
    clear h
    cases hgr : grpB g with
    | false =>
      rw [setF_no (by rw [setE_no hin hgr]; decide), setE_no hin hgr]
      go_enter Try.func10, Try.ntmps10
      go_wp2_with (first | (go_at_call 21; (with_reducible refine (asked_any _ b m S O n F ((H.out.below ((Below.refl _ _).alloc (Nat.le_refl _) _))) x y).mono ?_); rintro e w1 ⟨rfl, hb1⟩; rw [e0.out]) | (go_at_call 22; (with_reducible refine (grouped_any g _).mono ?_); rintro e wq ⟨rfl, hwq⟩; replace hwq := hwq.symm; subst hwq; rw [hgr]))
      go_ret
      exact ⟨rfl, (H.out.below (below_box hb1)).mono (by omega), One.of_below _ (below_box hb1)⟩
    | true =>
      by_cases hF : F x y = 0
      · rw [setF_ok (setE_ok hin hgr hF), setE_ok hin hgr hF]
        have hFd : Hid (decide (F x y ≠ 0) = false) := Lib.hid (decide_eq_false (fun h => h hF))
        have hg0 := grpB_iff.1 hgr
        go_enter Try.func10, Try.ntmps10
        go_wp2_with (first | (go_at_call 21; (with_reducible refine (asked_any _ b m S O n F ((H.out.below ((Below.refl _ _).alloc (Nat.le_refl _) _))) x y).mono ?_); rintro e wa ⟨rfl, hba⟩; rw [e0.out]; have hza := (below_box hba).size; have hOa := Lib.hid (H.out.below (below_box hba)); have c2 : wa.cell? ⟨b, 2, none⟩ = some (.map (some m)) := hOa.out.blk.cell 2; have hXa := (Blk.new w 54 #[.int .i64 x, .int .i64 y]).below hba; have cx : wa.cell? ⟨w.heap.size, 0, none⟩ = some (.int .i64 x) := hXa.cell 0; have cy : wa.cell? ⟨w.heap.size, 1, none⟩ = some (.int .i64 y) := hXa.cell 1; have lb : b < wa.heap.size := hOa.out.blk.lt; have lx : w.heap.size < wa.heap.size := hXa.lt; have lm : m < wa.heap.size := hOa.out.map.lt) | (go_at_call 22; (with_reducible refine (grouped_any g _).mono ?_); rintro e wq ⟨rfl, hwq⟩; replace hwq := hwq.symm; subst hwq; rw [hgr]))
        (refine wp_region_ext (wa.heap.size) (by kernel_rfl) (by kernel_rfl) (by first | exact Nat.le_refl _ | go_size) (fun hxc hxf hxh hxn => ?_); have hxl := fun s : Ext wa => hOa.out.map.look hx hy s.w (hxh s m lm); rw [hFd.out] at hxl; (repeat (first | go_big_quiet_step (fail) | quiet_step (fail))); refine wpQuiet_nil ?_; intro w1 hs1; clear hxc hxf hxh hxn; obtain ⟨hb1, hz1, hc1, hf1⟩ := ext_known hs1 (wa.heap.size) (by first | exact Nat.le_refl _ | go_size); clear hs1)
        have hOb := Lib.hid (hOa.out.below hb1)
        replace c2 := (hc1 b 2 lb).trans c2
        replace cx := (hc1 _ 0 lx).trans cx
        replace cy := (hc1 _ 1 lx).trans cy
        replace hba := (below_box hba).trans (hb1.mono hza)
        replace lb : b < w1.heap.size := hOb.out.blk.lt
        replace lx : w.heap.size < w1.heap.size := by omega
        replace lm : m < w1.heap.size := hOb.out.map.lt
        have hzb := hba.size
        clear hc1 hf1 hOa hb1 hXa hz1
        obtain ⟨wb, hwb⟩ : ∃ x : World, x = w1 := ⟨_, rfl⟩
        subst hwb
        go_wp2
        (refine wp_region_tail 6 (wb.heap.size) ?_ ?_ ?_ ?_ ?_ ?_ ?_; kernel_rfl; kernel_rfl; kernel_rfl; kernel_rfl; kernel_rfl; go_size; intro hxc hxf hxh hxn; simp only [List.take, List.drop]; (repeat (first | go_big_quiet_step (fail) | quiet_step (fail))); refine wpQuiet_nil ?_; intro w1 hs1; clear hxc hxf hxh hxn; obtain ⟨hb1, hz1, hc1, hf1⟩ := ext_known hs1 (wb.heap.size) (by go_size); clear hs1)
        have hOc := hOb.out.below hb1
        have hbc := hba.trans (hb1.mono hzb)
        clear hc1 hf1
        go_wp2_with (first | (at_mapUpdate; refine wpList_put rfl _ _ _ rfl rfl hOc.map (by unfold maxLen; omega) x y g rfl rfl hx hy hg (by omega) ?_; intro w2 hm2 ht2))
        go_ret
        exact ⟨rfl, hOc.put hin hg0 hm2 (One.turn ht2), (One.of_below _ hbc).trans (One.turn ht2)⟩
      · rw [setF_no (by rw [setE_owned hin hgr hF]; decide), setE_owned hin hgr hF]
        have hFd : Hid (decide (F x y ≠ 0) = true) := Lib.hid (decide_eq_true hF)
        go_enter Try.func10, Try.ntmps10
        go_wp2_with (first | (go_at_call 21; (with_reducible refine (asked_any _ b m S O n F ((H.out.below ((Below.refl _ _).alloc (Nat.le_refl _) _))) x y).mono ?_); rintro e wa ⟨rfl, hba⟩; rw [e0.out]; have hza := (below_box hba).size; have hOa := Lib.hid (H.out.below (below_box hba)); have c2 : wa.cell? ⟨b, 2, none⟩ = some (.map (some m)) := hOa.out.blk.cell 2; have hXa := (Blk.new w 54 #[.int .i64 x, .int .i64 y]).below hba; have cx : wa.cell? ⟨w.heap.size, 0, none⟩ = some (.int .i64 x) := hXa.cell 0; have cy : wa.cell? ⟨w.heap.size, 1, none⟩ = some (.int .i64 y) := hXa.cell 1; have lb : b < wa.heap.size := hOa.out.blk.lt; have lx : w.heap.size < wa.heap.size := hXa.lt; have lm : m < wa.heap.size := hOa.out.map.lt) | (go_at_call 22; (with_reducible refine (grouped_any g _).mono ?_); rintro e wq ⟨rfl, hwq⟩; replace hwq := hwq.symm; subst hwq; rw [hgr]))
        (refine wp_region_ext (wa.heap.size) (by kernel_rfl) (by kernel_rfl) (by first | exact Nat.le_refl _ | go_size) (fun hxc hxf hxh hxn => ?_); have hxl := fun s : Ext wa => hOa.out.map.look hx hy s.w (hxh s m lm); rw [hFd.out] at hxl; (repeat (first | go_big_quiet_step (fail) | quiet_step (fail))); refine wpQuiet_nil ?_; intro w1 hs1; clear hxc hxf hxh hxn; obtain ⟨hb1, hz1, hc1, hf1⟩ := ext_known hs1 (wa.heap.size) (by first | exact Nat.le_refl _ | go_size); clear hs1)
        have hOb := Lib.hid (hOa.out.below hb1)
        replace hba := (below_box hba).trans (hb1.mono hza)
        clear hc1 hf1 hOa hb1 hXa hz1
        go_wp2
        go_ret
        exact ⟨rfl, hOb.out.mono (by omega), One.of_below _ hba⟩
  · have e9 : Hid (askF S O x y = 9) := Lib.hid (askF_no hin)
    rw [setF_no (by rw [setE_out hin]; decide), setE_out hin]
    have H := Lib.hid h
    clear h
    go_enter Try.func10, Try.ntmps10
    go_wp2_with (first | (go_at_call 21; (with_reducible refine (asked_any _ b m S O n F ((H.out.below ((Below.refl _ _).alloc (Nat.le_refl _) _))) x y).mono ?_); rintro e w1 ⟨rfl, hb1⟩; rw [e9.out]))
    go_ret
    exact ⟨rfl, (H.out.below (below_box hb1)).mono (by omega), One.of_below _ (below_box hb1)⟩

def clearE (S O : Nat) (F : Int → Int → Int) (x y : Int) : Int := bif decide (0 ≤ x ∧ x < S ∧ 0 ≤ y ∧ y < O) then (bif decide (F x y = 0) then 140 else 0) else 9
theorem clearE_out {S O : Nat} {F : Int → Int → Int} {x y : Int} (h : ¬ (0 ≤ x ∧ x < S ∧ 0 ≤ y ∧ y < O)) : clearE S O F x y = 9 := by unfold clearE; rw [decide_eq_false h]; rfl
theorem clearE_none {S O : Nat} {F : Int → Int → Int} {x y : Int} (h : 0 ≤ x ∧ x < S ∧ 0 ≤ y ∧ y < O) (h3 : F x y = 0) : clearE S O F x y = 140 := by unfold clearE; rw [decide_eq_true h, decide_eq_true h3]; rfl
theorem clearE_ok {S O : Nat} {F : Int → Int → Int} {x y : Int} (h : 0 ≤ x ∧ x < S ∧ 0 ≤ y ∧ y < O) (h3 : F x y ≠ 0) : clearE S O F x y = 0 := by unfold clearE; rw [decide_eq_true h, decide_eq_false h3]; rfl
theorem putF_same {F : Int → Int → Int} {x y : Int} (h : F x y = 0) : putF F x y 0 = F := by
  funext a c
  unfold putF
  split
  · rename_i e; rw [e.1, e.2, h]
  · rfl

set_option maxRecDepth 100000 in
set_option maxHeartbeats 2000000 in
theorem clear_any (w : World) (b m S O n : Nat) (F : Int → Int → Int) (h : OwnAt w b m S O n F) (x y : Int) (hx : w64 x) (hy : w64 y) :
    Calls Try.prog 12 #[.pointer (some ⟨b, 0, none⟩), .int .i64 x, .int .i64 y] w fun e w' => e = .returned (.tuple #[.int .i64 (F x y), .int .i64 (clearE S O F x y)]) ∧ OwnAt w' b m S O n (putF F x y 0) ∧ One m w w' := by
  have hblk := h.blk.lt
  have hmlt := h.map.lt
  by_cases hin : 0 ≤ x ∧ x < S ∧ 0 ≤ y ∧ y < O
  · have e0 : Hid (askF S O x y = 0) := Lib.hid (askF_yes hin)
    have H := Lib.hid h
    clear h
    by_cases hF : F x y = 0
    · rw [putF_same hF, clearE_none hin hF, hF]
      have hFd : Hid (decide (F x y ≠ 0) = false) := Lib.hid (decide_eq_false (fun h => h hF))
      go_enter Try.func12, Try.ntmps12
      go_wp2_with (first | (go_at_call 21; (with_reducible refine (asked_any _ b m S O n F ((H.out.below ((Below.refl _ _).alloc (Nat.le_refl _) _))) x y).mono ?_); rintro e wa ⟨rfl, hba⟩; rw [e0.out]; have hza := (below_box hba).size; have hOa := Lib.hid (H.out.below (below_box hba)); have c2 : wa.cell? ⟨b, 2, none⟩ = some (.map (some m)) := hOa.out.blk.cell 2; have hXa := (Blk.new w 54 #[.int .i64 x, .int .i64 y]).below hba; have cx : wa.cell? ⟨w.heap.size, 0, none⟩ = some (.int .i64 x) := hXa.cell 0; have cy : wa.cell? ⟨w.heap.size, 1, none⟩ = some (.int .i64 y) := hXa.cell 1; have lb : b < wa.heap.size := hOa.out.blk.lt; have lx : w.heap.size < wa.heap.size := hXa.lt; have lm : m < wa.heap.size := hOa.out.map.lt))
      (refine wp_region_ext (wa.heap.size) (by kernel_rfl) (by kernel_rfl) (by first | exact Nat.le_refl _ | go_size) (fun hxc hxf hxh hxn => ?_); have hxl := fun s : Ext wa => hOa.out.map.look hx hy s.w (hxh s m lm); rw [hFd.out] at hxl; (repeat (first | go_big_quiet_step (fail) | quiet_step (fail))); refine wpQuiet_nil ?_; intro w1 hs1; clear hxc hxf hxh hxn; obtain ⟨hb1, hz1, hc1, hf1⟩ := ext_known hs1 (wa.heap.size) (by first | exact Nat.le_refl _ | go_size); clear hs1)
      have hOb := Lib.hid (hOa.out.below hb1)
      replace hba := (below_box hba).trans (hb1.mono hza)
      clear hc1 hf1 hOa hb1 hXa hz1
      go_wp2
      go_ret2
      exact ⟨rfl, hOb.out, One.of_below _ hba⟩
    · rw [clearE_ok hin hF]
      have hFd : Hid (decide (F x y ≠ 0) = true) := Lib.hid (decide_eq_true hF)
      go_enter Try.func12, Try.ntmps12
      go_wp2_with (first | (go_at_call 21; (with_reducible refine (asked_any _ b m S O n F ((H.out.below ((Below.refl _ _).alloc (Nat.le_refl _) _))) x y).mono ?_); rintro e wa ⟨rfl, hba⟩; rw [e0.out]; have hza := (below_box hba).size; have hOa := Lib.hid (H.out.below (below_box hba)); have c2 : wa.cell? ⟨b, 2, none⟩ = some (.map (some m)) := hOa.out.blk.cell 2; have hXa := (Blk.new w 54 #[.int .i64 x, .int .i64 y]).below hba; have cx : wa.cell? ⟨w.heap.size, 0, none⟩ = some (.int .i64 x) := hXa.cell 0; have cy : wa.cell? ⟨w.heap.size, 1, none⟩ = some (.int .i64 y) := hXa.cell 1; have lb : b < wa.heap.size := hOa.out.blk.lt; have lx : w.heap.size < wa.heap.size := hXa.lt; have lm : m < wa.heap.size := hOa.out.map.lt))
      (refine wp_region_ext (wa.heap.size) (by kernel_rfl) (by kernel_rfl) (by first | exact Nat.le_refl _ | go_size) (fun hxc hxf hxh hxn => ?_); have hxl := fun s : Ext wa => hOa.out.map.look hx hy s.w (hxh s m lm); rw [hFd.out] at hxl; (repeat (first | go_big_quiet_step (fail) | quiet_step (fail))); refine wpQuiet_nil ?_; intro w1 hs1; clear hxc hxf hxh hxn; obtain ⟨hb1, hz1, hc1, hf1⟩ := ext_known hs1 (wa.heap.size) (by first | exact Nat.le_refl _ | go_size); clear hs1)
      have hOb := Lib.hid (hOa.out.below hb1)
      replace c2 := (hc1 b 2 lb).trans c2
      replace cx := (hc1 _ 0 lx).trans cx
      replace cy := (hc1 _ 1 lx).trans cy
      replace hba := (below_box hba).trans (hb1.mono hza)
      replace lb : b < w1.heap.size := hOb.out.blk.lt
      replace lx : w.heap.size < w1.heap.size := by omega
      replace lm : m < w1.heap.size := hOb.out.map.lt
      have hzb := hba.size
      clear hc1 hf1 hOa hb1 hXa hz1
      obtain ⟨wb, hwb⟩ : ∃ x : World, x = w1 := ⟨_, rfl⟩
      subst hwb
      go_wp2
      (refine wp_region_tail 5 (wb.heap.size) ?_ ?_ ?_ ?_ ?_ ?_ ?_; kernel_rfl; kernel_rfl; kernel_rfl; kernel_rfl; kernel_rfl; go_size; intro hxc hxf hxh hxn; simp only [List.take, List.drop]; (repeat (first | go_big_quiet_step (fail) | quiet_step (fail))); refine wpQuiet_nil ?_; intro w1 hs1; clear hxc hxf hxh hxn; obtain ⟨hb1, hz1, hc1, hf1⟩ := ext_known hs1 (wb.heap.size) (by go_size); clear hs1)
      have hOc := hOb.out.below hb1
      have hbc := hba.trans (hb1.mono hzb)
      clear hc1 hf1
      go_wp2_with (first | (at_delete; refine wpList_del rfl _ _ rfl rfl hOc.map x y rfl hx hy ?_; intro w2 hm2 ht2))
      go_ret2
      exact ⟨rfl, hOc.del hm2 (One.turn ht2), (One.of_below _ hbc).trans (One.turn ht2)⟩
  · have e9 : Hid (askF S O x y = 9) := Lib.hid (askF_no hin)
    have hF : F x y = 0 := by
      rcases Classical.em (F x y = 0) with h1 | h1
      · exact h1
      · exact absurd (h.in_ x y h1).1 hin
    rw [putF_same hF, clearE_out hin, hF]
    have H := Lib.hid h
    clear h
    go_enter Try.func12, Try.ntmps12
    go_wp2_with (first | (go_at_call 21; (with_reducible refine (asked_any _ b m S O n F ((H.out.below ((Below.refl _ _).alloc (Nat.le_refl _) _))) x y).mono ?_); rintro e w1 ⟨rfl, hb1⟩; rw [e9.out]))
    go_ret2
    exact ⟨rfl, H.out.below (below_box hb1), One.of_below _ (below_box hb1)⟩
theorem of_any (w : World) (b m S O n : Nat) (F : Int → Int → Int) (h : OwnAt w b m S O n F) (x y : Int) (hx : w64 x) (hy : w64 y) :
    Calls Try.prog 18 #[.pointer (some ⟨b, 0, none⟩), .int .i64 x, .int .i64 y] w fun e w' => e = .returned (.int .i64 (F x y)) ∧ w' = w := by
  have hB := h.blk
  have c2 : w.cell? ⟨b, 2, none⟩ = some (.map (some m)) := h.blk.cell 2
  have hl := h.map.look1 hx hy w rfl
  clear h
  go_enter Try.func18, Try.ntmps18
  go_wp2_with (first | (go_at_call 25; (with_reducible refine (none_any _ b m S O hB).mono ?_); rintro e wq ⟨rfl, hwq⟩; replace hwq := hwq.symm; subst hwq))
  go_ret
  exact ⟨rfl, rfl⟩

end Go.Proofs.Ytehmegnmfpfopaa
