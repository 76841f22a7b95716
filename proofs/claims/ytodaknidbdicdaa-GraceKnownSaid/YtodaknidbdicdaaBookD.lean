/-
  The machine and the book: both at once; a call: Lock, Unlock, Quiet.
-/
import Derived.Test.YtodaknidbdicdaaBookA
import Derived.Test.YtodaknidbdicdaaBookQ
import Derived.Test.YtodaknidbdicdaaWorks
import Derived.Test.YtodaknidbdicdaaBring
import Derived.WalkKit
import Derived.Deep.DeepMust
import Derived.WalkSpells
import Derived.WalkLawsBesides
import Derived.Handy
import Derived.Lib.Hide
import Derived.Deep.QuietTactic
import Derived.BigQuiet
namespace Go.Proofs.Ytodaknidbdicdaa
open Go.RowKit

theorem HasRow.add {w w' : World} {gs : List Nat} {A : Option Addr} {n c : Nat} {l : List Wt} (h : HasRow w gs A n c l) (hr : HasRow w' gs A n c l) {gs' : List Nat} (hg : ∀ g ∈ gs', g ∈ gs ∨ w.heap.size ≤ g) : HasRow w' gs' A n c l :=
  ⟨hr.len, hr.cap, hr.row, fun hn g off e hm => by
    rcases hg g hm with h1 | h1
    · exact h.ne hn g off e h1
    · obtain ⟨g', off', e', hl, -⟩ := h.row (by rw [rowV_len]; have := h.len; omega)
      rw [e'] at e
      injection e with e
      injection e with e
      omega⟩
theorem RowV.add {w w' : World} {gs : List Nat} {v : Value} {l : List Wt} (h : RowV w gs v l) (hr : RowV w' gs v l) {gs' : List Nat} (hg : ∀ g ∈ gs', g ∈ gs ∨ w.heap.size ≤ g) : RowV w' gs' v l := by
  rcases h with ⟨h1, h2⟩ | ⟨A, n, c, h1, h2⟩
  · exact .inl ⟨h1, h2⟩
  · rcases hr with ⟨h3, -⟩ | ⟨A', n', c', h3, h4⟩
    · rw [h1] at h3; cases h3
    · rw [h1] at h3
      injection h3 with _ h3
      injection h3 with e1 e2 e3
      subst e1 e2 e3
      exact .inr ⟨A, n, c, h1, h2.add h4 hg⟩
/-- Blocks that are new since may be named too. -/
theorem GrAt.add {w w' : World} {b : Nat} {gs gs' : List Nat} {G : Gr} (h : GrAt w b gs G) (hr : GrAt w' b gs G) (hm : b ∈ gs') (hg : ∀ g ∈ gs', g ∈ gs ∨ w.heap.size ≤ g) (hl : ∀ g ∈ gs', g < w'.heap.size) (hk : ∀ k, k < 8 → ∀ v, w.cell? ⟨b, 9 + k, none⟩ = some v → w'.cell? ⟨b, 9 + k, none⟩ = some v) : GrAt w' b gs' G := by
  obtain ⟨-, -, cs', hB', hC'⟩ := hr
  obtain ⟨-, -, cs, hB, hC⟩ := h
  refine ⟨hm, hl, cs', hB', hC'.size, hC'.cpus, hC'.deep, fun k hk8 => ?_, hC'.ended, hC'.going, hC'.needs⟩
  obtain ⟨v', e', r'⟩ := hC'.rows k hk8
  obtain ⟨v, e, r⟩ := hC.rows k hk8
  have h1 := hk k hk8 v (by rw [hB.cell]; exact e)
  rw [hB'.cell, e'] at h1
  injection h1 with h1
  subst h1
  exact ⟨v', e', r.add r' hg⟩

/-- Both stand. -/
structure Wd (W w : World) (b bb : Nat) (ws : List Nat) (G : Gr) (R : Nat → List Rec) : Prop where
  gr : GrAt w b (b :: ws) G
  bk : BookAt w bb ws G.D R
  inv : Inv G
  c3 : G.C = 3
  rel : Rel G R
  low : Below W.heap.size W w
  lb : W.heap.size ≤ b
  lw : ∀ g ∈ ws, W.heap.size ≤ g
  nb : b ∉ ws
theorem Wd.len {W w : World} {b bb : Nat} {ws : List Nat} {G : Gr} {R : Nat → List Rec} (h : Wd W w b bb ws G R) : ∀ c, c < 3 → (R c).length ≤ 256 := fun c hc => by
  rw [(h.rel c hc).1]
  exact (errC_zero.1 (h.inv.l c)).1
def DonePost (W : World) (b bb : Nat) (G : Gr) (e : Ending) (w' : World) : Prop :=
  e = .returned (.bool true) ∧ ∃ (G1 : Gr) (R1 : Nat → List Rec) (ws1 : List Nat), G1.E ≤ G.E + 1 ∧ Wd W w' b bb ws1 G1 R1
theorem lockI_at {G : Gr} {c : Nat} (hC : G.C = 3) (hc : c < 3) : lockI G (c : Int) = lockG G c := by
  unfold lockI; rw [decide_eq_true (by omega), cond_true, Int.toNat_natCast]
theorem unlockI_at {G : Gr} {c : Nat} (hC : G.C = 3) (hc : c < 3) : unlockI G (c : Int) = unlockG G c := by
  unfold unlockI; rw [decide_eq_true (by omega), cond_true, Int.toNat_natCast]
theorem quietI_at {G : Gr} {c : Nat} (hC : G.C = 3) (hc : c < 3) : quietI G (c : Int) = quietG G c := by
  unfold quietI; rw [decide_eq_true (by omega), cond_true, Int.toNat_natCast]
theorem callI_at {G : Gr} {c : Nat} (hC : G.C = 3) (hc : c < 3) (i : Int) : callI G (c : Int) i = callG G c i := by
  unfold callI; rw [decide_eq_true (by omega), cond_true, Int.toNat_natCast]
theorem depF_at {G : Gr} {c : Nat} (hC : G.C = 3) (hc : c < 3) : depF G (c : Int) = G.D c := by
  unfold depF; rw [decide_eq_true (by omega), cond_true, Int.toNat_natCast]

theorem quiet_zero {G : Gr} {c : Nat} (h8 : G.D c = 0) : (quietG G c).2 = 0 := by
  unfold quietG
  rw [decide_eq_false (by omega), cond_false]
  cases G.go <;> cases needsG (needG G c) <;> cases laterG (endG (needG G c)) <;> rfl
theorem quiet_D {G : Gr} {c : Nat} : (quietG G c).1.D = G.D := by
  unfold quietG
  cases decide (0 < G.D c) <;> cases G.go <;> cases needsG (needG G c) <;> cases laterG (endG (needG G c)) <;> rfl

theorem depth_low (w : World) (b : Nat) (gs : List Nat) (G : Gr) (h : GrAt w b gs G) (hI : Inv G) (x d : Int) (hd : depF G x = d) : Calls Try.prog 19 #[.pointer (some ⟨b, 0, none⟩), .int .i64 x] w fun e w' =>
    e = .returned (.int .i64 d) ∧ Below w.heap.size w w' := (depth_any w b gs G h hI x).mono fun e w' ⟨h1, h2⟩ => by
  subst h2
  rw [← hd]
  exact ⟨h1, Below.refl _ _⟩

section
variable {b bb : Nat} {ws : List Nat} {G : Gr} {R : Nat → List Rec}
set_option maxRecDepth 100000 in
set_option maxHeartbeats 4000000 in
theorem done_full (W w : World) (h : Wd W w b bb ws G R) (K X I : Int) (hK : Hid (K % 5 = 0)) (c : Nat) (hc : c < 3) (hX : Hid (X % 3 = (c : Int))) (h8 : G.D c = 8) :
    Calls Try.prog 8 #[.pointer (some ⟨bb, 0, none⟩), .pointer (some ⟨b, 0, none⟩), .agg #[.int .i64 K, .int .i64 X, .int .i64 I]] w (DonePost W b bb G) := by
  have HE : Hid (lockI G (c : Int) = (G, 5)) := Lib.hid (by rw [lockI_at h.c3 hc]; unfold lockG; rw [decide_eq_true h8]; rfl)
  have HD : Hid (depF G (c : Int) = 8) := Lib.hid (by rw [depF_at h.c3 hc, h8])
  have HI1 := Lib.hid h.inv
  have HI := Lib.hid h.inv
  have hc3 := Lib.hid h.c3
  have hrel := Lib.hid h.rel
  have hnb := Lib.hid h.nb
  have hlw := Lib.hid h.lw
  have hlen := Lib.hid h.len
  have lb := h.lb
  have hB := h.low.alloc h.low.size (.cells #[.int .i64 K, .int .i64 X, .int .i64 I] 36)
  have hO := h.gr.alloc (.cells #[.int .i64 K, .int .i64 X, .int .i64 I] 36)
  have hM := h.bk.alloc (.cells #[.int .i64 K, .int .i64 X, .int .i64 I] 36)
  have c0 : (0 : Int) ≤ (c : Int) := by omega
  have c1 : (c : Int) < 3 := by omega
  clear h
  go_enter Try.func8, Try.ntmps8
  go_wp2_with (first | (go_at_call 24; (with_reducible refine (bring_any X 3 (by omega) (by omega) _).mono ?_); rintro e w0 ⟨rfl, hw0⟩; replace hw0 := hw0.symm; subst hw0; rw [hX.out]) | (go_at_call 24; (with_reducible refine (bring_any K 5 (by omega) (by omega) _).mono ?_); rintro e w0 ⟨rfl, hw0⟩; replace hw0 := hw0.symm; subst hw0; rw [hK.out]) | (go_at_call 15; (with_reducible refine (lock_any _ hO HI.out (c : Int) G 5 HE.out).mono ?_); rintro e w3 ⟨rfl, hN, hT⟩; replace hB := hT.below hB lb hB.size; replace hM := hM.one hT hnb.out; clear hT hO; have hO := hN; clear hN))
  have k1 := hM.cD hc
  have hbl := hM.lt
  rw [h8] at k1
  (refine wp_region_ext (w3.heap.size) (by kernel_rfl) (by kernel_rfl) (by go_size) (fun hxc hxf hxh hxn => ?_); (repeat (first | go_big_quiet_step (first | (go_at_call 19; exact ext_call (depth_low _ b _ _ (hO.below (Ext.below _)) HI1.out (c : Int) 8 HD.out))) | quiet_step (first | (go_at_call 19; exact ext_call (depth_low _ b _ _ (hO.below (Ext.below _)) HI1.out (c : Int) 8 HD.out))))); refine wpQuiet_nil ?_; intro w1 hs1; clear hxc hxf hxh hxn; obtain ⟨hb1, hz1, hc1, hf1⟩ := ext_known hs1 (w3.heap.size) (by go_size); clear hs1)
  go_wp2
  go_ret
  exact ⟨rfl, G, R, ws, Nat.le_succ _, hO.below hb1, hM.below hb1, HI1.out, hc3.out, hrel.out, hB.trans (hb1.mono hB.size), lb, hlw.out, hnb.out⟩
set_option maxRecDepth 100000 in
set_option maxHeartbeats 4000000 in
theorem done_lock (W w : World) (h : Wd W w b bb ws G R) (K X I : Int) (hK : Hid (K % 5 = 0)) (c : Nat) (hc : c < 3) (hX : Hid (X % 3 = (c : Int))) (h8 : G.D c ≠ 8) :
    Calls Try.prog 8 #[.pointer (some ⟨bb, 0, none⟩), .pointer (some ⟨b, 0, none⟩), .agg #[.int .i64 K, .int .i64 X, .int .i64 I]] w (DonePost W b bb G) := by
  obtain ⟨d, hd⟩ : ∃ d, G.D c = d := ⟨_, rfl⟩
  obtain ⟨d1, d2⟩ := h.inv.d c
  obtain ⟨G1, hG1⟩ : ∃ G1, ({ G with D := upd G.D c (G.D c + 1) } : Gr) = G1 := ⟨_, rfl⟩
  have hL : lockG G c = (G1, 0) := by unfold lockG; rw [decide_eq_false h8, ← hG1]; rfl
  have HE : Hid (lockI G (c : Int) = (G1, 0)) := Lib.hid (by rw [lockI_at h.c3 hc, hL])
  have HI1 : Hid (Inv G1) := Lib.hid (by have h5 := h.inv.lock (k := c); rw [hL] at h5; exact h5)
  have HR1 : Hid (Rel G1 R) := Lib.hid (by have h5 := h.rel.lock c; rw [hL] at h5; exact h5)
  have HGD : Hid (G1.D = upd G.D c (d + 1)) := Lib.hid (by rw [← hG1, ← hd])
  have HC1 : Hid (G1.C = 3) := Lib.hid (by rw [← hG1]; exact h.c3)
  have HE1 : Hid (G1.E ≤ G.E + 1) := Lib.hid (by rw [← hG1]; exact Nat.le_succ _)
  have HD : Hid (depF G1 (c : Int) = d + 1) := Lib.hid (by rw [depF_at HC1.out hc, HGD.out, upd_same])
  rw [hd] at d1 d2 h8
  have w3k : IntKind.i64.wrap (d + 1) = d + 1 := IntWalk.i64_in _ (by omega)
  have hd := Lib.hid hd
  clear hG1 hL
  have HI := Lib.hid h.inv
  have hc3 := Lib.hid h.c3
  have hrel := Lib.hid h.rel
  have hnb := Lib.hid h.nb
  have hlw := Lib.hid h.lw
  have hlen := Lib.hid h.len
  have lb := h.lb
  have hB := h.low.alloc h.low.size (.cells #[.int .i64 K, .int .i64 X, .int .i64 I] 36)
  have hO := h.gr.alloc (.cells #[.int .i64 K, .int .i64 X, .int .i64 I] 36)
  have hM := h.bk.alloc (.cells #[.int .i64 K, .int .i64 X, .int .i64 I] 36)
  have c0 : (0 : Int) ≤ (c : Int) := by omega
  have c1 : (c : Int) < 3 := by omega
  clear h
  go_enter Try.func8, Try.ntmps8
  go_wp2_with (first | (go_at_call 24; (with_reducible refine (bring_any X 3 (by omega) (by omega) _).mono ?_); rintro e w0 ⟨rfl, hw0⟩; replace hw0 := hw0.symm; subst hw0; rw [hX.out]) | (go_at_call 24; (with_reducible refine (bring_any K 5 (by omega) (by omega) _).mono ?_); rintro e w0 ⟨rfl, hw0⟩; replace hw0 := hw0.symm; subst hw0; rw [hK.out]) | (go_at_call 15; (with_reducible refine (lock_any _ hO HI.out (c : Int) G1 0 HE.out).mono ?_); rintro e w3 ⟨rfl, hN, hT⟩; replace hB := hT.below hB lb hB.size; replace hM := hM.one hT hnb.out; clear hT hO; have hO := hN; clear hN; have k1 := hM.cD hc; have kf := hM.frz c; rw [hd.out] at k1; have hbl := hM.lt))
  go_region
  all_goals go_wp2_with fail
  have hT4 : Rws ws w3 (w3.setCell ⟨bb, c, none⟩ (.int .i64 (d + 1))).drew := ((Rws.refl ws w3).set hM.mem c _).drew
  replace hM := (hM.setD hc (d + 1)).drew
  rw [← HGD.out] at hM
  replace hO := hO.rws hT4 hnb.out (fun g h => List.mem_cons_of_mem _ h)
  replace hB := hT4.below hB hlw.out hB.size
  generalize hw4 : (w3.setCell ⟨bb, c, none⟩ (.int .i64 (d + 1))).drew = w4 at hM hO hB ⊢
  clear hT4 hw4 k1 kf
  have k1 := hM.cD hc
  rw [HGD.out, upd_same] at k1
  replace hbl := hM.lt
  (refine wp_region_ext (w4.heap.size) (by kernel_rfl) (by kernel_rfl) (by go_size) (fun hxc hxf hxh hxn => ?_); (repeat (first | go_big_quiet_step (first | (go_at_call 19; exact ext_call (depth_low _ b _ _ (hO.below (Ext.below _)) HI1.out (c : Int) (d + 1) HD.out))) | quiet_step (first | (go_at_call 19; exact ext_call (depth_low _ b _ _ (hO.below (Ext.below _)) HI1.out (c : Int) (d + 1) HD.out))))); refine wpQuiet_nil ?_; intro w1 hs1; clear hxc hxf hxh hxn; obtain ⟨hb1, hz1, hc1, hf1⟩ := ext_known hs1 (w4.heap.size) (by go_size); clear hs1)
  go_wp2
  go_ret
  exact ⟨rfl, G1, R, ws, HE1.out, hO.below hb1, hM.below hb1, HI1.out, HC1.out, HR1.out, hB.trans (hb1.mono hB.size), lb, hlw.out, hnb.out⟩
set_option maxRecDepth 100000 in
set_option maxHeartbeats 4000000 in
theorem done_shut (W w : World) (h : Wd W w b bb ws G R) (K X I : Int) (hK : Hid (K % 5 = 1)) (c : Nat) (hc : c < 3) (hX : Hid (X % 3 = (c : Int))) (h8 : G.D c = 0) :
    Calls Try.prog 8 #[.pointer (some ⟨bb, 0, none⟩), .pointer (some ⟨b, 0, none⟩), .agg #[.int .i64 K, .int .i64 X, .int .i64 I]] w (DonePost W b bb G) := by
  have HE : Hid (unlockI G (c : Int) = (G, 292)) := Lib.hid (by rw [unlockI_at h.c3 hc]; unfold unlockG; rw [decide_eq_true h8]; rfl)
  have HD : Hid (depF G (c : Int) = 0) := Lib.hid (by rw [depF_at h.c3 hc, h8])
  have HI1 := Lib.hid h.inv
  have HI := Lib.hid h.inv
  have hc3 := Lib.hid h.c3
  have hrel := Lib.hid h.rel
  have hnb := Lib.hid h.nb
  have hlw := Lib.hid h.lw
  have hlen := Lib.hid h.len
  have lb := h.lb
  have hB := h.low.alloc h.low.size (.cells #[.int .i64 K, .int .i64 X, .int .i64 I] 36)
  have hO := h.gr.alloc (.cells #[.int .i64 K, .int .i64 X, .int .i64 I] 36)
  have hM := h.bk.alloc (.cells #[.int .i64 K, .int .i64 X, .int .i64 I] 36)
  have c0 : (0 : Int) ≤ (c : Int) := by omega
  have c1 : (c : Int) < 3 := by omega
  clear h
  go_enter Try.func8, Try.ntmps8
  go_wp2_with (first | (go_at_call 24; (with_reducible refine (bring_any X 3 (by omega) (by omega) _).mono ?_); rintro e w0 ⟨rfl, hw0⟩; replace hw0 := hw0.symm; subst hw0; rw [hX.out]) | (go_at_call 24; (with_reducible refine (bring_any K 5 (by omega) (by omega) _).mono ?_); rintro e w0 ⟨rfl, hw0⟩; replace hw0 := hw0.symm; subst hw0; rw [hK.out]) | (go_at_call 16; (with_reducible refine (unlock_any _ hO HI.out (c : Int) G 292 HE.out).mono ?_); rintro e w3 ⟨rfl, hN, hT⟩; replace hB := hT.below hB lb hB.size; replace hM := hM.one hT hnb.out; clear hT hO; have hO := hN; clear hN; have k1 := hM.cD hc; rw [h8] at k1; have hbl := hM.lt))
  (refine wp_region_ext (w3.heap.size) (by kernel_rfl) (by kernel_rfl) (by go_size) (fun hxc hxf hxh hxn => ?_); (repeat (first | go_big_quiet_step (first | (go_at_call 19; exact ext_call (depth_low _ b _ _ (hO.below (Ext.below _)) HI1.out (c : Int) 0 HD.out))) | quiet_step (first | (go_at_call 19; exact ext_call (depth_low _ b _ _ (hO.below (Ext.below _)) HI1.out (c : Int) 0 HD.out))))); refine wpQuiet_nil ?_; intro w1 hs1; clear hxc hxf hxh hxn; obtain ⟨hb1, hz1, hc1, hf1⟩ := ext_known hs1 (w3.heap.size) (by go_size); clear hs1)
  go_wp2
  go_ret
  exact ⟨rfl, G, R, ws, Nat.le_succ _, hO.below hb1, hM.below hb1, HI1.out, hc3.out, hrel.out, hB.trans (hb1.mono hB.size), lb, hlw.out, hnb.out⟩
set_option maxRecDepth 100000 in
set_option maxHeartbeats 4000000 in
theorem done_deep (W w : World) (h : Wd W w b bb ws G R) (K X I : Int) (hK : Hid (K % 5 = 1)) (c : Nat) (hc : c < 3) (hX : Hid (X % 3 = (c : Int))) (h8 : 0 < G.D c - 1) :
    Calls Try.prog 8 #[.pointer (some ⟨bb, 0, none⟩), .pointer (some ⟨b, 0, none⟩), .agg #[.int .i64 K, .int .i64 X, .int .i64 I]] w (DonePost W b bb G) := by
  obtain ⟨d, hd⟩ : ∃ d, G.D c = d := ⟨_, rfl⟩
  obtain ⟨d1, d2⟩ := h.inv.d c
  have h0 : G.D c ≠ 0 := by omega
  obtain ⟨G1, hG1⟩ : ∃ G1, ({ G with D := upd G.D c (G.D c - 1) } : Gr) = G1 := ⟨_, rfl⟩
  have hL : unlockG G c = (G1, 0) := by unfold unlockG; rw [decide_eq_false h0, ← hG1]; rfl
  have HE : Hid (unlockI G (c : Int) = (G1, 0)) := Lib.hid (by rw [unlockI_at h.c3 hc, hL])
  have HI1 : Hid (Inv G1) := Lib.hid (by have h5 := h.inv.unlock (k := c); rw [hL] at h5; exact h5)
  have HGD : Hid (G1.D = upd G.D c (d - 1)) := Lib.hid (by rw [← hG1, ← hd])
  have HC1 : Hid (G1.C = 3) := Lib.hid (by rw [← hG1]; exact h.c3)
  have HE1 : Hid (G1.E ≤ G.E + 1) := Lib.hid (by rw [← hG1]; exact Nat.le_succ _)
  have HD : Hid (depF G1 (c : Int) = d - 1) := Lib.hid (by rw [depF_at HC1.out hc, HGD.out, upd_same])
  have HR1 : Hid (Rel G1 R) := Lib.hid (by rw [← hG1]; exact h.rel.unlock h8)
  rw [hd] at d1 d2 h0 h8
  have w3k : IntKind.i64.wrap (d - 1) = d - 1 := IntWalk.i64_in _ (by omega)
  have hd := Lib.hid hd
  clear hG1 hL
  have g0 : (0 : Int) < d := by omega
  have g1 : ((d - 1) == 0) = false := by rw [beq_eq_false_iff_ne]; omega
  have HI := Lib.hid h.inv
  have hc3 := Lib.hid h.c3
  have hrel := Lib.hid h.rel
  have hnb := Lib.hid h.nb
  have hlw := Lib.hid h.lw
  have hlen := Lib.hid h.len
  have lb := h.lb
  have hB := h.low.alloc h.low.size (.cells #[.int .i64 K, .int .i64 X, .int .i64 I] 36)
  have hO := h.gr.alloc (.cells #[.int .i64 K, .int .i64 X, .int .i64 I] 36)
  have hM := h.bk.alloc (.cells #[.int .i64 K, .int .i64 X, .int .i64 I] 36)
  have c0 : (0 : Int) ≤ (c : Int) := by omega
  have c1 : (c : Int) < 3 := by omega
  clear h
  go_enter Try.func8, Try.ntmps8
  go_wp2_with (first | (go_at_call 24; (with_reducible refine (bring_any X 3 (by omega) (by omega) _).mono ?_); rintro e w0 ⟨rfl, hw0⟩; replace hw0 := hw0.symm; subst hw0; rw [hX.out]) | (go_at_call 24; (with_reducible refine (bring_any K 5 (by omega) (by omega) _).mono ?_); rintro e w0 ⟨rfl, hw0⟩; replace hw0 := hw0.symm; subst hw0; rw [hK.out]) | (go_at_call 16; (with_reducible refine (unlock_any _ hO HI.out (c : Int) G1 0 HE.out).mono ?_); rintro e w3 ⟨rfl, hN, hT⟩; replace hB := hT.below hB lb hB.size; replace hM := hM.one hT hnb.out; clear hT hO; have hO := hN; clear hN; have k1 := hM.cD hc; have kf := hM.frz c; rw [hd.out] at k1; have hbl := hM.lt))
  go_region
  all_goals go_wp2_with fail
  have hT4 : Rws ws w3 (w3.setCell ⟨bb, c, none⟩ (.int .i64 (d - 1))).drew := ((Rws.refl ws w3).set hM.mem c _).drew
  replace hM := (hM.setD hc (d - 1)).drew
  rw [← HGD.out] at hM
  replace hO := hO.rws hT4 hnb.out (fun g h => List.mem_cons_of_mem _ h)
  replace hB := hT4.below hB hlw.out hB.size
  generalize hw4 : (w3.setCell ⟨bb, c, none⟩ (.int .i64 (d - 1))).drew = w4 at hM hO hB ⊢
  clear hT4 hw4 k1 kf
  have k1 := hM.cD hc
  rw [HGD.out, upd_same] at k1
  replace hbl := hM.lt
  go_wp2
  (refine wp_region_ext (w4.heap.size) (by kernel_rfl) (by kernel_rfl) (by go_size) (fun hxc hxf hxh hxn => ?_); (repeat (first | go_big_quiet_step (first | (go_at_call 19; exact ext_call (depth_low _ b _ _ (hO.below (Ext.below _)) HI1.out (c : Int) (d - 1) HD.out))) | quiet_step (first | (go_at_call 19; exact ext_call (depth_low _ b _ _ (hO.below (Ext.below _)) HI1.out (c : Int) (d - 1) HD.out))))); refine wpQuiet_nil ?_; intro w1 hs1; clear hxc hxf hxh hxn; obtain ⟨hb1, hz1, hc1, hf1⟩ := ext_known hs1 (w4.heap.size) (by go_size); clear hs1)
  go_wp2
  go_ret
  exact ⟨rfl, G1, R, ws, HE1.out, hO.below hb1, hM.below hb1, HI1.out, HC1.out, HR1.out, hB.trans (hb1.mono hB.size), lb, hlw.out, hnb.out⟩
set_option maxRecDepth 100000 in
set_option maxHeartbeats 4000000 in
theorem done_unlock (W w : World) (h : Wd W w b bb ws G R) (K X I : Int) (hK : Hid (K % 5 = 1)) (c : Nat) (hc : c < 3) (hX : Hid (X % 3 = (c : Int))) (h8 : G.D c = 1) :
    Calls Try.prog 8 #[.pointer (some ⟨bb, 0, none⟩), .pointer (some ⟨b, 0, none⟩), .agg #[.int .i64 K, .int .i64 X, .int .i64 I]] w (DonePost W b bb G) := by
  obtain ⟨G1, hG1⟩ : ∃ G1, ({ G with D := upd G.D c (G.D c - 1) } : Gr) = G1 := ⟨_, rfl⟩
  have hL : unlockG G c = (G1, 0) := by unfold unlockG; rw [decide_eq_false (by omega), ← hG1]; rfl
  have HE : Hid (unlockI G (c : Int) = (G1, 0)) := Lib.hid (by rw [unlockI_at h.c3 hc, hL])
  have HI1 : Hid (Inv G1) := Lib.hid (by have h5 := h.inv.unlock (k := c); rw [hL] at h5; exact h5)
  have HGD : Hid (G1.D = upd G.D c 0) := Lib.hid (by rw [← hG1, h8]; rfl)
  have HC1 : Hid (G1.C = 3) := Lib.hid (by rw [← hG1]; exact h.c3)
  have HE1 : Hid (G1.E ≤ G.E + 1) := Lib.hid (by rw [← hG1]; exact Nat.le_succ _)
  have HD : Hid (depF G1 (c : Int) = 0) := Lib.hid (by rw [depF_at HC1.out hc, HGD.out, upd_same])
  have HR1 : Hid (Rel G1 (fun i => (R i).map (unlockR c))) := Lib.hid (by rw [← hG1]; exact h.rel.unlocked (by omega))
  have h8 := Lib.hid h8
  clear hG1 hL
  have HI := Lib.hid h.inv
  have hc3 := Lib.hid h.c3
  have hrel := Lib.hid h.rel
  have hnb := Lib.hid h.nb
  have hlw := Lib.hid h.lw
  have hlen := Lib.hid h.len
  have lb := h.lb
  have hB := h.low.alloc h.low.size (.cells #[.int .i64 K, .int .i64 X, .int .i64 I] 36)
  have hO := h.gr.alloc (.cells #[.int .i64 K, .int .i64 X, .int .i64 I] 36)
  have hM := h.bk.alloc (.cells #[.int .i64 K, .int .i64 X, .int .i64 I] 36)
  have c0 : (0 : Int) ≤ (c : Int) := by omega
  have c1 : (c : Int) < 3 := by omega
  clear h
  go_enter Try.func8, Try.ntmps8
  go_wp2_with (first | (go_at_call 24; (with_reducible refine (bring_any X 3 (by omega) (by omega) _).mono ?_); rintro e w0 ⟨rfl, hw0⟩; replace hw0 := hw0.symm; subst hw0; rw [hX.out]) | (go_at_call 24; (with_reducible refine (bring_any K 5 (by omega) (by omega) _).mono ?_); rintro e w0 ⟨rfl, hw0⟩; replace hw0 := hw0.symm; subst hw0; rw [hK.out]) | (go_at_call 16; (with_reducible refine (unlock_any _ hO HI.out (c : Int) G1 0 HE.out).mono ?_); rintro e w3 ⟨rfl, hN, hT⟩; replace hB := hT.below hB lb hB.size; replace hM := hM.one hT hnb.out; clear hT hO; have hO := hN; clear hN; have k1 := hM.cD hc; have kf := hM.frz c; rw [h8.out] at k1; have hbl := hM.lt))
  go_region
  all_goals go_wp2_with fail
  have hT4 : Rws ws w3 (w3.setCell ⟨bb, c, none⟩ (.int .i64 (0))).drew := ((Rws.refl ws w3).set hM.mem c _).drew
  replace hM := (hM.setD hc (0)).drew
  rw [← HGD.out] at hM
  replace hO := hO.rws hT4 hnb.out (fun g h => List.mem_cons_of_mem _ h)
  replace hB := hT4.below hB hlw.out hB.size
  generalize hw4 : (w3.setCell ⟨bb, c, none⟩ (.int .i64 (0))).drew = w4 at hM hO hB ⊢
  clear hT4 hw4 k1 kf
  have k1 := hM.cD hc
  rw [HGD.out, upd_same] at k1
  replace hbl := hM.lt
  go_wp2_with (first | (go_at_call 25; (with_reducible refine (unlocked_any _ hM c hc (fun i hi => Nat.le_trans (hlen.out i hi) (by decide))).mono ?_); rintro e w5 ⟨rfl, hM5, hT5⟩; replace hO := hO.rws hT5 hnb.out (fun g h => List.mem_cons_of_mem _ h); replace hB := hT5.below hB hlw.out hB.size; clear hM; have hM := hM5; clear hM5 hT5))
  have k1 := hM.cD hc
  rw [HGD.out, upd_same] at k1
  replace hbl := hM.lt
  (refine wp_region_ext (w5.heap.size) (by kernel_rfl) (by kernel_rfl) (by go_size) (fun hxc hxf hxh hxn => ?_); (repeat (first | go_big_quiet_step (first | (go_at_call 19; exact ext_call (depth_low _ b _ _ (hO.below (Ext.below _)) HI1.out (c : Int) 0 HD.out))) | quiet_step (first | (go_at_call 19; exact ext_call (depth_low _ b _ _ (hO.below (Ext.below _)) HI1.out (c : Int) 0 HD.out))))); refine wpQuiet_nil ?_; intro w1 hs1; clear hxc hxf hxh hxn; obtain ⟨hb1, hz1, hc1, hf1⟩ := ext_known hs1 (w5.heap.size) (by go_size); clear hs1)
  go_wp2
  go_ret
  exact ⟨rfl, G1, _, ws, HE1.out, hO.below hb1, hM.below hb1, HI1.out, HC1.out, HR1.out, hB.trans (hb1.mono hB.size), lb, hlw.out, hnb.out⟩
set_option maxRecDepth 100000 in
set_option maxHeartbeats 4000000 in
theorem done_late (W w : World) (h : Wd W w b bb ws G R) (K X I : Int) (hK : Hid (K % 5 = 2)) (c : Nat) (hc : c < 3) (hX : Hid (X % 3 = (c : Int))) (hE : G.E ≤ 1000000) (h8 : 0 < G.D c) :
    Calls Try.prog 8 #[.pointer (some ⟨bb, 0, none⟩), .pointer (some ⟨b, 0, none⟩), .agg #[.int .i64 K, .int .i64 X, .int .i64 I]] w (DonePost W b bb G) := by
  obtain ⟨d, hd⟩ : ∃ d, G.D c = d := ⟨_, rfl⟩
  have HE : Hid (quietI G (c : Int) = (G, 292)) := Lib.hid (by rw [quietI_at h.c3 hc]; unfold quietG; rw [decide_eq_true h8]; rfl)
  have HD : Hid (depF G (c : Int) = d) := Lib.hid (by rw [depF_at h.c3 hc, hd])
  have HI1 := Lib.hid h.inv
  rw [hd] at h8
  have g1 : (d == 0) = false := by rw [beq_eq_false_iff_ne]; omega
  have hd := Lib.hid hd
  have HI := Lib.hid h.inv
  have hc3 := Lib.hid h.c3
  have hrel := Lib.hid h.rel
  have hnb := Lib.hid h.nb
  have hlw := Lib.hid h.lw
  have hlen := Lib.hid h.len
  have lb := h.lb
  have hB := h.low.alloc h.low.size (.cells #[.int .i64 K, .int .i64 X, .int .i64 I] 36)
  have hO := h.gr.alloc (.cells #[.int .i64 K, .int .i64 X, .int .i64 I] 36)
  have hM := h.bk.alloc (.cells #[.int .i64 K, .int .i64 X, .int .i64 I] 36)
  have c0 : (0 : Int) ≤ (c : Int) := by omega
  have c1 : (c : Int) < 3 := by omega
  clear h
  go_enter Try.func8, Try.ntmps8
  go_wp2_with (first | (go_at_call 24; (with_reducible refine (bring_any X 3 (by omega) (by omega) _).mono ?_); rintro e w0 ⟨rfl, hw0⟩; replace hw0 := hw0.symm; subst hw0; rw [hX.out]) | (go_at_call 24; (with_reducible refine (bring_any K 5 (by omega) (by omega) _).mono ?_); rintro e w0 ⟨rfl, hw0⟩; replace hw0 := hw0.symm; subst hw0; rw [hK.out]) | (go_at_call 17; (with_reducible refine (quiet_any _ hO HI.out hE (c : Int) G 292 HE.out).mono ?_); rintro e w3 ⟨rfl, hN, hT⟩; replace hB := hT.below hB lb hB.size; replace hM := hM.one hT hnb.out; clear hT hO; have hO := hN; clear hN; have k1 := hM.cD hc; rw [hd.out] at k1; have hbl := hM.lt))
  (refine wp_region_ext (w3.heap.size) (by kernel_rfl) (by kernel_rfl) (by go_size) (fun hxc hxf hxh hxn => ?_); (repeat (first | go_big_quiet_step (first | (go_at_call 19; exact ext_call (depth_low _ b _ _ (hO.below (Ext.below _)) HI1.out (c : Int) d HD.out))) | quiet_step (first | (go_at_call 19; exact ext_call (depth_low _ b _ _ (hO.below (Ext.below _)) HI1.out (c : Int) d HD.out))))); refine wpQuiet_nil ?_; intro w1 hs1; clear hxc hxf hxh hxn; obtain ⟨hb1, hz1, hc1, hf1⟩ := ext_known hs1 (w3.heap.size) (by go_size); clear hs1)
  go_wp2
  go_ret
  exact ⟨rfl, G, R, ws, Nat.le_succ _, hO.below hb1, hM.below hb1, HI1.out, hc3.out, hrel.out, hB.trans (hb1.mono hB.size), lb, hlw.out, hnb.out⟩
set_option maxRecDepth 100000 in
set_option maxHeartbeats 4000000 in
theorem done_quiet (W w : World) (h : Wd W w b bb ws G R) (K X I : Int) (hK : Hid (K % 5 = 2)) (c : Nat) (hc : c < 3) (hX : Hid (X % 3 = (c : Int))) (hE : G.E ≤ 1000000) (h8 : G.D c = 0) :
    Calls Try.prog 8 #[.pointer (some ⟨bb, 0, none⟩), .pointer (some ⟨b, 0, none⟩), .agg #[.int .i64 K, .int .i64 X, .int .i64 I]] w (DonePost W b bb G) := by
  obtain ⟨G1, hG1⟩ : ∃ G1, (quietG G c).1 = G1 := ⟨_, rfl⟩
  have hL : quietG G c = (G1, 0) := by rw [← hG1]; exact pair_of (quiet_zero h8)
  have HE : Hid (quietI G (c : Int) = (G1, 0)) := Lib.hid (by rw [quietI_at h.c3 hc, hL])
  have hnx := quiet_nxt h.inv HE.out
  have HI1 : Hid (Inv G1) := Lib.hid hnx.1
  have HC1 : Hid (G1.C = 3) := Lib.hid (hnx.2.2.trans h.c3)
  have HE1 : Hid (G1.E ≤ G.E + 1) := Lib.hid hnx.2.1
  have HGD : Hid (G1.D = G.D) := Lib.hid (by rw [← hG1]; exact quiet_D)
  have HD : Hid (depF G1 (c : Int) = 0) := Lib.hid (by rw [depF_at HC1.out hc, HGD.out, h8])
  have HR1 : Hid (Rel G1 (fun i => (R i).map (reportR c))) := Lib.hid (by rw [← hG1]; exact h.rel.quiet h.inv h.c3 h8)
  have h8 := Lib.hid h8
  clear hG1 hL hnx
  have HI := Lib.hid h.inv
  have hc3 := Lib.hid h.c3
  have hrel := Lib.hid h.rel
  have hnb := Lib.hid h.nb
  have hlw := Lib.hid h.lw
  have hlen := Lib.hid h.len
  have lb := h.lb
  have hB := h.low.alloc h.low.size (.cells #[.int .i64 K, .int .i64 X, .int .i64 I] 36)
  have hO := h.gr.alloc (.cells #[.int .i64 K, .int .i64 X, .int .i64 I] 36)
  have hM := h.bk.alloc (.cells #[.int .i64 K, .int .i64 X, .int .i64 I] 36)
  have c0 : (0 : Int) ≤ (c : Int) := by omega
  have c1 : (c : Int) < 3 := by omega
  clear h
  go_enter Try.func8, Try.ntmps8
  go_wp2_with (first | (go_at_call 24; (with_reducible refine (bring_any X 3 (by omega) (by omega) _).mono ?_); rintro e w0 ⟨rfl, hw0⟩; replace hw0 := hw0.symm; subst hw0; rw [hX.out]) | (go_at_call 24; (with_reducible refine (bring_any K 5 (by omega) (by omega) _).mono ?_); rintro e w0 ⟨rfl, hw0⟩; replace hw0 := hw0.symm; subst hw0; rw [hK.out]) | (go_at_call 17; (with_reducible refine (quiet_any _ hO HI.out hE (c : Int) G1 0 HE.out).mono ?_); rintro e w3 ⟨rfl, hN, hT⟩; replace hB := hT.below hB lb hB.size; replace hM := hM.one hT hnb.out; clear hT hO; have hO := hN; clear hN; have k1 := hM.cD hc; rw [h8.out] at k1; have hbl := hM.lt) | (go_at_call 26; (with_reducible refine (reported_any _ hM c hc (fun i hi => Nat.le_trans (hlen.out i hi) (by decide))).mono ?_); rintro e w5 ⟨rfl, hM5, hT5⟩; replace hO := hO.rws hT5 hnb.out (fun g h => List.mem_cons_of_mem _ h); replace hB := hT5.below hB hlw.out hB.size; clear hM; have hM := hM5; clear hM5 hT5))
  rw [← HGD.out] at hM
  have k1 := hM.cD hc
  rw [HGD.out, h8.out] at k1
  replace hbl := hM.lt
  (refine wp_region_ext (w5.heap.size) (by kernel_rfl) (by kernel_rfl) (by go_size) (fun hxc hxf hxh hxn => ?_); (repeat (first | go_big_quiet_step (first | (go_at_call 19; exact ext_call (depth_low _ b _ _ (hO.below (Ext.below _)) HI1.out (c : Int) 0 HD.out))) | quiet_step (first | (go_at_call 19; exact ext_call (depth_low _ b _ _ (hO.below (Ext.below _)) HI1.out (c : Int) 0 HD.out))))); refine wpQuiet_nil ?_; intro w1 hs1; clear hxc hxf hxh hxn; obtain ⟨hb1, hz1, hc1, hf1⟩ := ext_known hs1 (w5.heap.size) (by go_size); clear hs1)
  go_wp2
  go_ret
  exact ⟨rfl, G1, _, ws, HE1.out, hO.below hb1, hM.below hb1, HI1.out, HC1.out, HR1.out, hB.trans (hb1.mono hB.size), lb, hlw.out, hnb.out⟩
end

end Go.Proofs.Ytodaknidbdicdaa
