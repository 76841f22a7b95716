/-
  The machine and the book: a call: Call, Poll.
-/
import Derived.Test.YtodaknidbdicdaaBookD
import Derived.Deep.RegionLaw
import Derived.WalkKit
import Derived.Deep.DeepMust
import Derived.WalkSpells
import Derived.WalkLawsBesides
import Derived.Handy
import Derived.Lib.Hide
import Derived.Deep.QuietTactic
import Derived.BigQuiet
namespace Go.Proofs.Ytodaknidbdicdaa
open Go.RowKit

def partR (i : Int) (D : Nat → Int) (k : Nat) : Rec := ⟨i, fun j => decide (j < k) && decide (0 < D j), fun j => decide (j < k)⟩
theorem partR_next (i : Int) (D : Nat → Int) (k : Nat) (x : Bool) (hx : decide (0 < D k) = x) : ({ ({ partR i D k with ins := upd (partR i D k).ins k x } : Rec) with sil := upd (partR i D k).sil k true } : Rec) = partR i D (k + 1) := by
  have e1 : upd (partR i D k).ins k x = (partR i D (k + 1)).ins := by
    funext j
    by_cases e : j = k
    · subst e
      rw [upd_same]
      show x = (decide (j < j + 1) && decide (0 < D j))
      rw [decide_eq_true (Nat.lt_succ_self j), hx, Bool.true_and]
    · rw [upd_ne _ _ e]
      show (decide (j < k) && _) = (decide (j < k + 1) && _)
      rw [show decide (j < k) = decide (j < k + 1) by rw [decide_eq_decide]; omega]
  have e2 : upd (partR i D k).sil k true = (partR i D (k + 1)).sil := by
    funext j
    by_cases e : j = k
    · subst e
      rw [upd_same]
      exact (decide_eq_true (Nat.lt_succ_self j)).symm
    · rw [upd_ne _ _ e]
      show decide (j < k) = decide (j < k + 1)
      rw [decide_eq_decide]; omega
  show (⟨i, upd (partR i D k).ins k x, upd (partR i D k).sil k true⟩ : Rec) = ⟨i, _, _⟩
  rw [e1, e2]
  rfl
theorem Blk.part {w : World} {xb : Nat} {i : Int} {D : Nat → Int} {k : Nat} (hk : k < 3) (h : Blk w xb 64 (recA (partR i D k))) (x : Bool) (hx : decide (0 < D k) = x) :
    Blk ((w.setCell ⟨xb, 1 + k, none⟩ (.bool x)).setCell ⟨xb, 9 + k, none⟩ (.bool true)) xb 64 (recA (partR i D (k + 1))) := by
  have h1 := (h.set_ (1 + k) (.bool x)).set_ (9 + k) (.bool true)
  rw [recA_ins _ hk, recA_sil _ hk] at h1
  rw [← partR_next i D k x hx]
  exact h1

theorem Try.infoRec : (Try.prog.info? 64).map (fun i => (i.zero, i.size, i.bytes)) = some (some (.agg (recA ⟨0, fun _ => false, fun _ => false⟩)), 17, 24) := by kernel_rfl

section
variable {b bb : Nat} {ws : List Nat} {G : Gr} {R : Nat → List Rec}
/-- Behind an append to row c, and its store. -/
theorem added_all {W wr w4 : World} {v v4 : Value} {β β4 : Option Nat} {r : Rec} {c : Nat} (o : Obj) (hO : GrAt wr b (b :: ws) G) (hM : BookAt wr bb ws G.D R) (hB : Below W.heap.size W wr) (hlw : ∀ g ∈ ws, W.heap.size ≤ g) (hnb : b ∉ ws)
    (k3 : ∀ g, β = some g → g ∈ ws ∧ g ≠ bb)
    (k5 : ∀ (w' : World) (v' : Value) (β' : Option Nat) (rs' : List Rec) (ws' : List Nat), wr.heap.size ≤ w'.heap.size → (∀ i, i < wr.heap.size → some i ≠ β → w'.heap[i]? = wr.heap[i]?) → RecRow w' v' β' rs' → (β' = β ∨ ∃ g, β' = some g ∧ wr.heap.size ≤ g) → (∀ g, β' = some g → g ∈ ws') →
      (∀ g ∈ ws, g ∈ ws') → (∀ g ∈ ws', g < w'.heap.size) → BookAt (w'.setCell ⟨bb, 3 + c, none⟩ v') bb ws' G.D (upd R c rs'))
    (hA : Added (wr.alloc o).drew w4 v v4 β β4 (R c ++ [r])) :
    ∃ ws1 : List Nat, GrAt (w4.setCell ⟨bb, 3 + c, none⟩ v4) b (b :: ws1) G ∧ BookAt (w4.setCell ⟨bb, 3 + c, none⟩ v4) bb ws1 G.D (upd R c (R c ++ [r])) ∧ Below W.heap.size W (w4.setCell ⟨bb, 3 + c, none⟩ v4) ∧ (∀ g ∈ ws1, W.heap.size ≤ g) ∧ b ∉ ws1 := by
  have hz1 : (wr.alloc o).drew.heap.size = wr.heap.size + 1 := World.size_alloc _ _
  have hz := hA.size
  have hT : Rws ws (wr.alloc o).drew w4 := ⟨hA.os, hA.tape, hA.output, hA.size, fun k hk hn => hA.block k hk (fun e => hn (k3 k e.symm).1)⟩
  have hb1 : Below wr.heap.size wr (wr.alloc o).drew := ((Below.refl _ _).alloc (Nat.le_refl _) o).drew
  have hT1 : Rws ws wr w4 := (Rws.of_below ws hb1).trans hT
  have hT2 : Rws ws wr (w4.setCell ⟨bb, 3 + c, none⟩ v4) := hT1.set hM.mem _ _
  have hO2 := hO.rws hT2 hnb (fun g h => List.mem_cons_of_mem _ h)
  have hB2 := hT2.below hB hlw hB.size
  have hzz : (w4.setCell ⟨bb, 3 + c, none⟩ v4).heap.size = w4.heap.size := by simp [World.setCell]
  have hk5 := k5 w4 v4 β4 (R c ++ [r])
  have hsz : wr.heap.size ≤ w4.heap.size := by omega
  have hblk : ∀ i, i < wr.heap.size → some i ≠ β → w4.heap[i]? = wr.heap[i]? := fun i hi hn => (hA.block i (by omega) hn).trans (Below.heap_alloc wr o i hi)
  rcases hA.ne with e | ⟨g, e, hg⟩
  · refine ⟨ws, hO2, hk5 ws hsz hblk hA.row (.inl e) (fun g hg => (k3 g (by rw [← e]; exact hg)).1) (fun _ h => h) (fun g hg => Nat.lt_of_lt_of_le (hM.lts g hg) hsz), hB2, hlw, hnb⟩
  · have hgl : g < w4.heap.size := hA.row.lt g e
    have hgw : wr.heap.size ≤ g := by omega
    refine ⟨g :: ws, ?_, hk5 (g :: ws) hsz hblk hA.row (.inr ⟨g, e, hgw⟩) (fun g' hg' => ?_) (fun _ h => List.mem_cons_of_mem _ h) (fun g' hg' => ?_), hB2, fun g' hg' => ?_, fun hm => ?_⟩
    · refine hO.add hO2 (List.mem_cons_self ..) (fun g' hg' => ?_) (fun g' hg' => ?_) (fun k _ v hv => ?_)
      · rcases List.mem_cons.1 hg' with rfl | hg'
        · exact .inl (List.mem_cons_self ..)
        · rcases List.mem_cons.1 hg' with rfl | hg'
          · exact .inr hgw
          · exact .inl (List.mem_cons_of_mem _ hg')
      · rw [hzz]
        rcases List.mem_cons.1 hg' with rfl | hg'
        · exact Nat.lt_of_lt_of_le hO.lt hsz
        · rcases List.mem_cons.1 hg' with rfl | hg'
          · exact hgl
          · exact Nat.lt_of_lt_of_le (hM.lts g' hg') hsz
      · rw [← hv]
        exact World.cell?_of_block (w := wr) (hT2.block b hO.lt hnb)
    · rw [e] at hg'
      injection hg' with hg'
      subst hg'
      exact List.mem_cons_self ..
    · rcases List.mem_cons.1 hg' with rfl | hg'
      · exact hgl
      · exact Nat.lt_of_lt_of_le (hM.lts g' hg') hsz
    · rcases List.mem_cons.1 hg' with rfl | hg'
      · have := hB.size; omega
      · exact hlw g' hg'
    · rcases List.mem_cons.1 hm with rfl | hm
      · have := hO.lt; omega
      · exact hnb hm
set_option maxRecDepth 100000 in
set_option maxHeartbeats 4000000 in
theorem done_nocall (W w : World) (h : Wd W w b bb ws G R) (K X I : Int) (hK : Hid (K % 5 = 3)) (c : Nat) (hc : c < 3) (hX : Hid (X % 3 = (c : Int))) (hE : G.E ≤ 1000000) (i : Int) (hi : Hid (I % 1000 = i)) (G1 : Gr) (v : Int) (hv : callG G c i = (G1, v)) (h0 : v ≠ 0) (hR1 : Rel G1 R) (hD1 : G1.D = G.D) :
    Calls Try.prog 8 #[.pointer (some ⟨bb, 0, none⟩), .pointer (some ⟨b, 0, none⟩), .agg #[.int .i64 K, .int .i64 X, .int .i64 I]] w (DonePost W b bb G) := by
  have HE : Hid (callI G (c : Int) i = (G1, v)) := Lib.hid (by rw [callI_at h.c3 hc, hv])
  have hnx := call_nxt h.inv HE.out
  have HI1 : Hid (Inv G1) := Lib.hid hnx.1
  have HC1 : Hid (G1.C = 3) := Lib.hid (hnx.2.2.trans h.c3)
  have HE1 : Hid (G1.E ≤ G.E + 1) := Lib.hid hnx.2.1
  obtain ⟨d, hd⟩ : ∃ d, G1.D c = d := ⟨_, rfl⟩
  have HD : Hid (depF G1 (c : Int) = d) := Lib.hid (by rw [depF_at HC1.out hc, hd])
  have hd := Lib.hid hd
  have HR1 := Lib.hid hR1
  have HGD := Lib.hid hD1
  have g1 : (v == 0) = false := by rw [beq_eq_false_iff_ne]; exact h0
  clear hv h0 hR1 hD1 hnx
  have HI := Lib.hid h.inv
  have hc3 := Lib.hid h.c3
  have hrel := Lib.hid h.rel
  have hnb := Lib.hid h.nb
  have hlw := Lib.hid h.lw
  have hlen := Lib.hid h.len
  have lb := h.lb
  have hB := h.low.alloc h.low.size (.cells #[.int .i64 K, .int .i64 X, .int .i64 I] 36)
  have hO := h.gr.alloc (.cells #[.int .i64 K, .int .i64 X, .int .i64 I] 36)
  have hM := h.bk.alloc (.cells #[.int .i64 K, .int .i64 X, .int .i64 I] 36)
  have c0 : (0 : Int) ≤ (c : Int) := by omega
  have c1 : (c : Int) < 3 := by omega
  clear h
  go_enter Try.func8, Try.ntmps8
  go_wp2_with (first | (go_at_call 24; (with_reducible refine (bring_any X 3 (by omega) (by omega) _).mono ?_); rintro e w0 ⟨rfl, hw0⟩; replace hw0 := hw0.symm; subst hw0; rw [hX.out]) | (go_at_call 24; (with_reducible refine (bring_any K 5 (by omega) (by omega) _).mono ?_); rintro e w0 ⟨rfl, hw0⟩; replace hw0 := hw0.symm; subst hw0; rw [hK.out]) | (go_at_call 24; (with_reducible refine (bring_any I 1000 (by omega) (by omega) _).mono ?_); rintro e w0 ⟨rfl, hw0⟩; replace hw0 := hw0.symm; subst hw0; rw [hi.out]) | (go_at_call 18; (with_reducible refine (call_any _ hO HI.out hE (c : Int) i G1 v HE.out).mono ?_); rintro e w3 ⟨rfl, hN, hT⟩; replace hB := hT.below hB lb hB.size; replace hM := hM.one hT hnb.out; clear hT hO; have hO := hN; clear hN; rw [← HGD.out] at hM; have k1 := hM.cD hc; rw [hd.out] at k1; have hbl := hM.lt))
  (refine wp_region_ext (w3.heap.size) (by kernel_rfl) (by kernel_rfl) (by go_size) (fun hxc hxf hxh hxn => ?_); (repeat (first | go_big_quiet_step (first | (go_at_call 19; exact ext_call (depth_low _ b _ _ (hO.below (Ext.below _)) HI1.out (c : Int) d HD.out))) | quiet_step (first | (go_at_call 19; exact ext_call (depth_low _ b _ _ (hO.below (Ext.below _)) HI1.out (c : Int) d HD.out))))); refine wpQuiet_nil ?_; intro w1 hs1; clear hxc hxf hxh hxn; obtain ⟨hb1, hz1, hc1, hf1⟩ := ext_known hs1 (w3.heap.size) (by go_size); clear hs1)
  go_wp2
  go_ret
  exact ⟨rfl, G1, R, ws, HE1.out, hO.below hb1, hM.below hb1, HI1.out, HC1.out, HR1.out, hB.trans (hb1.mono hB.size), lb, hlw.out, hnb.out⟩
set_option maxRecDepth 100000 in
set_option maxHeartbeats 4000000 in
theorem done_call (W w : World) (h : Wd W w b bb ws G R) (K X I : Int) (hK : Hid (K % 5 = 3)) (c : Nat) (hc : c < 3) (hX : Hid (X % 3 = (c : Int))) (hE : G.E ≤ 1000000) (i : Int) (hi : Hid (I % 1000 = i)) (G1 : Gr) (hv : callG G c i = (G1, 0)) (hR1 : Rel G1 (upd R c (R c ++ [newR i G.D]))) (hD1 : G1.D = G.D) :
    Calls Try.prog 8 #[.pointer (some ⟨bb, 0, none⟩), .pointer (some ⟨b, 0, none⟩), .agg #[.int .i64 K, .int .i64 X, .int .i64 I]] w (DonePost W b bb G) := by
  obtain ⟨ti, hi0, hz0, hz1, hz2⟩ := info_parts Try.infoRec
  have J0 := Lib.hid hi0
  have J1 := Lib.hid hz0
  have J2 := Lib.hid hz1
  have J3 := Lib.hid hz2
  clear hi0 hz0 hz1 hz2
  have HE : Hid (callI G (c : Int) i = (G1, 0)) := Lib.hid (by rw [callI_at h.c3 hc, hv])
  have hnx := call_nxt h.inv HE.out
  have HI1 : Hid (Inv G1) := Lib.hid hnx.1
  have HC1 : Hid (G1.C = 3) := Lib.hid (hnx.2.2.trans h.c3)
  have HE1 : Hid (G1.E ≤ G.E + 1) := Lib.hid hnx.2.1
  obtain ⟨d, hd⟩ : ∃ d, G1.D c = d := ⟨_, rfl⟩
  have HD : Hid (depF G1 (c : Int) = d) := Lib.hid (by rw [depF_at HC1.out hc, hd])
  have hd := Lib.hid hd
  rw [← hD1] at hR1
  have HR1 := Lib.hid hR1
  have HGD := Lib.hid hD1
  clear hv hR1 hD1 hnx
  have HI := Lib.hid h.inv
  have hc3 := Lib.hid h.c3
  have hrel := Lib.hid h.rel
  have hnb := Lib.hid h.nb
  have hlw := Lib.hid h.lw
  have hlen := Lib.hid h.len
  have lb := h.lb
  have hB := h.low.alloc h.low.size (.cells #[.int .i64 K, .int .i64 X, .int .i64 I] 36)
  have hO := h.gr.alloc (.cells #[.int .i64 K, .int .i64 X, .int .i64 I] 36)
  have hM := h.bk.alloc (.cells #[.int .i64 K, .int .i64 X, .int .i64 I] 36)
  have c0 : (0 : Int) ≤ (c : Int) := by omega
  have c1 : (c : Int) < 3 := by omega
  clear h
  go_enter Try.func8, Try.ntmps8
  go_wp2_with (first | (go_at_call 24; (with_reducible refine (bring_any X 3 (by omega) (by omega) _).mono ?_); rintro e w0 ⟨rfl, hw0⟩; replace hw0 := hw0.symm; subst hw0; rw [hX.out]) | (go_at_call 24; (with_reducible refine (bring_any K 5 (by omega) (by omega) _).mono ?_); rintro e w0 ⟨rfl, hw0⟩; replace hw0 := hw0.symm; subst hw0; rw [hK.out]) | (go_at_call 24; (with_reducible refine (bring_any I 1000 (by omega) (by omega) _).mono ?_); rintro e w0 ⟨rfl, hw0⟩; replace hw0 := hw0.symm; subst hw0; rw [hi.out]) | (go_at_call 18; (with_reducible refine (call_any _ hO HI.out hE (c : Int) i G1 0 HE.out).mono ?_); rintro e w3 ⟨rfl, hN, hT⟩; replace hB := hT.below hB lb hB.size; replace hM := hM.one hT hnb.out; clear hT hO; have hO := hN; clear hN; rw [← HGD.out] at hM))
  have hX := Blk.new w3 64 (recA (partR i G1.D 0))
  have hb3 : Below w3.heap.size w3 (w3.alloc (.cells (recA (partR i G1.D 0)) 64)) := (Below.refl _ _).alloc (Nat.le_refl _) _
  go_loopw [12] (fun q wr => ∃ k : Nat, k ≤ 3 ∧ q = .int .i64 k ∧ Hid (Blk wr w3.heap.size 64 (recA (partR i G1.D k))) ∧ Below w3.heap.size w3 wr) (fun q _ => 3 - (intOf q).toNat)
  case atStart => exact ⟨0, by omega, rfl, Lib.hid hX, hb3⟩
  case round =>
    clear hX hb3
    obtain ⟨k, hk3, rfl, HX, hb3⟩ := hrel
    have m0 : (0 : Int) ≤ (k : Int) := by omega
    by_cases hk : k < 3
    · have m1 : (k : Int) < 3 := by omega
      have m2 : (k : Int) < 8 := by omega
      obtain ⟨dk, hdk⟩ : ∃ dk, G1.D k = dk := ⟨_, rfl⟩
      have y0 := (hb3.cell (p := ⟨bb, k, none⟩) hM.lt).trans (hM.cD hk)
      rw [hdk] at y0
      have y1 := HX.out.cell (1 + k)
      have y2 := HX.out.cell (9 + k)
      have z1 : ∃ u, (recA (partR i G1.D k))[1 + k]? = some u := ⟨_, Array.getElem?_eq_getElem (by show 1 + k < 17; omega)⟩
      have z2 : ∃ u, (recA (partR i G1.D k))[9 + k]? = some u := ⟨_, Array.getElem?_eq_getElem (by show 9 + k < 17; omega)⟩
      obtain ⟨u1, z1⟩ := z1
      obtain ⟨u2, z2⟩ := z2
      rw [z1] at y1
      rw [z2] at y2
      have f1 := HX.out.frozen (1 + k)
      have f2 := HX.out.frozen (9 + k)
      have hbx : bb ≠ w3.heap.size := fun e => by have := hM.lt; omega
      have HDK := Lib.hid hdk
      clear z1 z2 hdk
      by_cases hpos : 0 < dk
      · have HN := Lib.hid (HX.out.part hk true (by rw [HDK.out]; exact decide_eq_true hpos))
        go_wp2
        go_roundw
        case rel => exact ⟨k + 1, by omega, by go_num, HN, (hb3.setCell (Nat.le_refl _) _).setCell (Nat.le_refl _) _⟩
        case measure => simp [intOf]; omega
      · have HN := Lib.hid (HX.out.part hk false (by rw [HDK.out]; exact decide_eq_false hpos))
        go_wp2
        go_roundw
        case rel => exact ⟨k + 1, by omega, by go_num, HN, (hb3.setCell (Nat.le_refl _) _).setCell (Nat.le_refl _) _⟩
        case measure => simp [intOf]; omega
    · obtain rfl : k = 3 := by omega
      have HX : Hid (Blk wr w3.heap.size 64 (recA (newR i G1.D))) := HX
      obtain ⟨r, hr⟩ : ∃ r, newR i G1.D = r := ⟨_, rfl⟩
      rw [hr] at HX HR1
      clear hr
      have hM3 := Lib.hid hM.lts
      replace hM := hM.below hb3
      replace hO := hO.below hb3
      replace hB := hB.trans (hb3.mono hB.size)
      obtain ⟨v, β, k1, k2, k3, -, k5⟩ := hM.cV hc
      obtain ⟨A5, c5, rfl⟩ := k2.shape
      have kf := hM.frz (3 + c)
      have hbl := hM.lt
      have y0 := HX.out.cell 0
      have y1 := HX.out.cell 1
      have y2 := HX.out.cell 2
      have y3 := HX.out.cell 3
      have y4 := HX.out.cell 4
      have y5 := HX.out.cell 5
      have y6 := HX.out.cell 6
      have y7 := HX.out.cell 7
      have y8 := HX.out.cell 8
      have y9 := HX.out.cell 9
      have y10 := HX.out.cell 10
      have y11 := HX.out.cell 11
      have y12 := HX.out.cell 12
      have y13 := HX.out.cell 13
      have y14 := HX.out.cell 14
      have y15 := HX.out.cell 15
      have y16 := HX.out.cell 16
      simp only [recA, List.getElem?_toArray, List.getElem?_cons_zero, List.getElem?_cons_succ] at y0 y1 y2 y3 y4 y5 y6 y7 y8 y9 y10 y11 y12 y13 y14 y15 y16
      have hxl := HX.out.lt
      obtain ⟨o, ho⟩ : ∃ o, o = (.cells (recA r) 64 : Obj) := ⟨_, rfl⟩
      have hbA : Hid (Below wr.heap.size wr (wr.alloc (.cells #[.int .i64 r.id, .bool (r.ins 0), .bool (r.ins 1), .bool (r.ins 2), .bool (r.ins 3), .bool (r.ins 4), .bool (r.ins 5), .bool (r.ins 6), .bool (r.ins 7), .bool (r.sil 0), .bool (r.sil 1), .bool (r.sil 2), .bool (r.sil 3), .bool (r.sil 4), .bool (r.sil 5), .bool (r.sil 6), .bool (r.sil 7)] 64)).drew) := Lib.hid ((Below.refl _ _).alloc (Nat.le_refl _) _).drew
      have HBk : Hid (Blk (wr.alloc (.cells #[.int .i64 r.id, .bool (r.ins 0), .bool (r.ins 1), .bool (r.ins 2), .bool (r.ins 3), .bool (r.ins 4), .bool (r.ins 5), .bool (r.ins 6), .bool (r.ins 7), .bool (r.sil 0), .bool (r.sil 1), .bool (r.sil 2), .bool (r.sil 3), .bool (r.sil 4), .bool (r.sil 5), .bool (r.sil 6), .bool (r.sil 7)] 64)).drew wr.heap.size 64 (recA r)) := Lib.hid (Blk.new wr 64 (recA r)).drew
      have HRow : Hid (RecRow (wr.alloc (.cells #[.int .i64 r.id, .bool (r.ins 0), .bool (r.ins 1), .bool (r.ins 2), .bool (r.ins 3), .bool (r.ins 4), .bool (r.ins 5), .bool (r.ins 6), .bool (r.ins 7), .bool (r.sil 0), .bool (r.sil 1), .bool (r.sil 2), .bool (r.sil 3), .bool (r.sil 4), .bool (r.sil 5), .bool (r.sil 6), .bool (r.sil 7)] 64)).drew (.slice A5 (R c).length c5) β (R c)) := Lib.hid (k2.heap (fun g hg => Below.heap_alloc wr _ g (k2.lt g hg)))
      have HK3 := Lib.hid k3
      have HK5 := Lib.hid k5
      have hlr : (R c).length ≤ 1000000 := Nat.le_trans (hlen.out c hc) (by decide)
      have hxn : Hid (some w3.heap.size ≠ β) := Lib.hid (fun e => by have := hM3.out _ (k3 _ e.symm).1; omega)
      clear ho k2 k3 k5
      go_wp2
      go_region_law (refine step_append_rec rfl _ _ 30 rfl ti _ Try.underlying30 J0.out J1.out J2.out J3.out rfl (by rfl) HRow.out hlr _ 1 r (by rfl) HBk.out ?_; intro v4 w4 β4 hA4; obtain ⟨A6, c6, e6⟩ := hA4.row.shape; rw [List.length_append, List.length_singleton] at e6; subst e6; have q1 := (World.cell?_of_block (a := ⟨bb, 3 + c, none⟩) (hA4.block bb (by go_size) (fun e => (HK3.out bb e.symm).2 rfl))).trans (cell_drew (cell_alloc k1)); have q2 := (World.frozen?_of_block (a := ⟨bb, 3 + c, none⟩) (hA4.block bb (by go_size) (fun e => (HK3.out bb e.symm).2 rfl))).trans ((hbA.out.frozen (p := ⟨bb, 3 + c, none⟩) hbl).trans kf))
      all_goals
        obtain ⟨ws1, gO, gM, gB, gw, gn⟩ := added_all _ hO hM hB hlw.out hnb.out HK3.out HK5.out hA4
        generalize w4.setCell ⟨bb, 3 + c, none⟩ (.slice A6 ((R c).length + 1) c6) = w5 at gO gM gB ⊢
        clear hA4 q1 q2 k1 kf HK5 HRow HBk hbA HX
        have gw := Lib.hid gw
        have gn := Lib.hid gn
        go_wp2_with fail
        have k1 := gM.cD hc
        rw [hd.out] at k1
        replace hbl := gM.lt
        (refine wp_region_ext (w5.heap.size) (by kernel_rfl) (by kernel_rfl) (by go_size) (fun hxc hxf hxh hxn => ?_); (repeat (first | go_big_quiet_step (first | (go_at_call 19; exact ext_call (depth_low _ b _ _ (gO.below (Ext.below _)) HI1.out (c : Int) d HD.out))) | quiet_step (first | (go_at_call 19; exact ext_call (depth_low _ b _ _ (gO.below (Ext.below _)) HI1.out (c : Int) d HD.out))))); refine wpQuiet_nil ?_; intro w1 hs1; clear hxc hxf hxh hxn; obtain ⟨hb1, hz1, hc1, hf1⟩ := ext_known hs1 (w5.heap.size) (by go_size); clear hs1)
        go_wp2
        go_ret
        exact ⟨rfl, G1, _, ws1, HE1.out, gO.below hb1, gM.below hb1, HI1.out, HC1.out, HR1.out, gB.trans (hb1.mono gB.size), lb, gw.out, gn.out⟩
end

end Go.Proofs.Ytodaknidbdicdaa
