/-
  The machine and the book: any call.
-/
import Derived.Test.YtodaknidbdicdaaBookE
import Derived.WalkKit
import Derived.Deep.DeepMust
import Derived.WalkSpells
import Derived.WalkLawsBesides
import Derived.Handy
import Derived.Lib.Hide
import Derived.Deep.QuietTactic
import Derived.BigQuiet
namespace Go.Proofs.Ytodaknidbdicdaa
open Go.RowKit

theorem own_far {w1 : World} {B : Nat} {ws : List Nat} {A : Option Addr} {n c : Nat} {xs : List Value} (h : w1.ownsRow B 3 1 (.slice A n c) n xs) (hl : ∀ g ∈ ws, g < B) : 0 < n → ∀ g off, A = some ⟨g, off, none⟩ → g ∉ ws := fun hn g off e hm => by
  obtain ⟨g', cap, hv, hb, -⟩ := h.form hn
  subst e
  injection hv with h1
  injection h1 with h2
  injection h2 with h3
  have := hl g hm
  omega

section
variable {b bb : Nat} {ws : List Nat} {G : Gr} {R : Nat → List Rec}
set_option maxRecDepth 100000 in
set_option maxHeartbeats 4000000 in
theorem done_poll (W w : World) (h : Wd W w b bb ws G R) (K X I : Int) (hK : Hid (K % 5 = 4)) (c : Nat) (hc : c < 3) (hX : Hid (X % 3 = (c : Int))) :
    Calls Try.prog 8 #[.pointer (some ⟨bb, 0, none⟩), .pointer (some ⟨b, 0, none⟩), .agg #[.int .i64 K, .int .i64 X, .int .i64 I]] w (DonePost W b bb G) := by
  have hc3' := h.c3
  have hx : 0 ≤ (c : Int) ∧ (c : Int) < G.C := by omega
  obtain ⟨l, hl⟩ : ∃ l, polled G c = l := ⟨_, rfl⟩
  obtain ⟨p1, p2, p3⟩ := h.rel.polled hc
  have hll : l.length = cutN G.E (G.L c) := by rw [← hl, p1, List.length_map, List.length_take]; omega
  rw [hl, ← hll] at p1
  rw [← hll] at p2 p3
  obtain ⟨G1, hG1⟩ : ∃ G1, pollG G c = G1 := ⟨_, rfl⟩
  have H1 : Hid (pollI G (c : Int) = G1) := Lib.hid (by unfold pollI; rw [decide_eq_true hx, cond_true, Int.toNat_natCast]; exact hG1)
  have H2 : Hid (pollE G (c : Int) = 0) := Lib.hid (by unfold pollE; rw [decide_eq_true hx, cond_true])
  have H3 : Hid (pollL G (c : Int) = l) := Lib.hid (by unfold pollL; rw [decide_eq_true hx, cond_true, Int.toNat_natCast]; exact hl)
  have hnx := poll_nxt h.inv H1.out
  have HI1 : Hid (Inv G1) := Lib.hid hnx.1
  have HC1 : Hid (G1.C = 3) := Lib.hid (hnx.2.2.trans h.c3)
  have HE1 : Hid (G1.E ≤ G.E + 1) := Lib.hid hnx.2.1
  have HGD : Hid (G1.D = G.D) := Lib.hid (by rw [← hG1]; rfl)
  have HR1 : Hid (Rel G1 (upd R c ((R c).drop l.length))) := Lib.hid (by rw [hll, ← hG1]; exact h.rel.poll c)
  have hlen := Lib.hid h.len
  have P1 := Lib.hid p1
  have P2 := Lib.hid p2
  have P3 := Lib.hid p3
  have HI := Lib.hid h.inv
  have hnb := Lib.hid h.nb
  have hlw := Lib.hid h.lw
  have hlts := Lib.hid (fun g hg => Nat.lt_succ_of_lt (h.bk.lts g hg))
  have lb := h.lb
  have hB := h.low.alloc h.low.size (.cells #[.int .i64 K, .int .i64 X, .int .i64 I] 36)
  have hO := h.gr.alloc (.cells #[.int .i64 K, .int .i64 X, .int .i64 I] 36)
  have hM := h.bk.alloc (.cells #[.int .i64 K, .int .i64 X, .int .i64 I] 36)
  have c0 : (0 : Int) ≤ (c : Int) := by omega
  have c1 : (c : Int) < 3 := by omega
  clear h hx hl p1 p2 p3 hll hG1 hnx hc3'
  go_enter Try.func8, Try.ntmps8
  go_wp2_with (first | (go_at_call 24; (with_reducible refine (bring_any X 3 (by omega) (by omega) _).mono ?_); rintro e w0 ⟨rfl, hw0⟩; replace hw0 := hw0.symm; subst hw0; rw [hX.out]) | (go_at_call 24; (with_reducible refine (bring_any K 5 (by omega) (by omega) _).mono ?_); rintro e w0 ⟨rfl, hw0⟩; replace hw0 := hw0.symm; subst hw0; rw [hK.out]) | (go_at_call 13; ((with_reducible refine (poll_any _ hO HI.out (c : Int) G1 0 l H1.out H2.out H3.out).mono ?_); rintro e w3 ⟨A3, c3, rfl, ho3, hN, hT⟩; have hA3 := Row.of_own ho3; have hF3 := own_far ho3 (fun g hg => by rw [World.size_alloc]; exact hlts.out g hg); replace hB := hT.below hB lb hB.size; replace hM := hM.one hT hnb.out; clear hT hO ho3; have hO := hN; clear hN; rw [← HGD.out] at hM)) | (go_at_call 27; ((with_reducible refine (polled_any _ hM c hc l A3 c3 hA3 hF3 (Nat.le_trans (hlen.out c hc) (by decide)) P2.out P1.out P3.out).mono ?_); rintro e w5 ⟨rfl, hM5, hT5⟩; replace hO := hO.rws hT5 hnb.out (fun g h => List.mem_cons_of_mem _ h); replace hB := hT5.below hB hlw.out hB.size)))
  go_ret
  exact ⟨rfl, G1, _, ws, HE1.out, hO, hM5, HI1.out, HC1.out, HR1.out, hB, lb, hlw.out, hnb.out⟩

theorem bookDone_any (W w : World) (h : Wd W w b bb ws G R) (hE : G.E ≤ 1000000) (K X I : Int) :
    Calls Try.prog 8 #[.pointer (some ⟨bb, 0, none⟩), .pointer (some ⟨b, 0, none⟩), .agg #[.int .i64 K, .int .i64 X, .int .i64 I]] w (DonePost W b bb G) := by
  obtain ⟨c, hcX⟩ := Int.eq_ofNat_of_zero_le (show 0 ≤ X % 3 by omega)
  have hc : c < 3 := by omega
  have hX := Lib.hid hcX
  obtain ⟨d1, d2⟩ := h.inv.d c
  rcases (by omega : K % 5 = 0 ∨ K % 5 = 1 ∨ K % 5 = 2 ∨ K % 5 = 3 ∨ K % 5 = 4) with hK | hK | hK | hK | hK
  · by_cases h8 : G.D c = 8
    · exact done_full W w h K X I (Lib.hid hK) c hc hX h8
    · exact done_lock W w h K X I (Lib.hid hK) c hc hX h8
  · rcases (by omega : G.D c = 0 ∨ G.D c = 1 ∨ 0 < G.D c - 1) with h8 | h8 | h8
    · exact done_shut W w h K X I (Lib.hid hK) c hc hX h8
    · exact done_unlock W w h K X I (Lib.hid hK) c hc hX h8
    · exact done_deep W w h K X I (Lib.hid hK) c hc hX h8
  · rcases (by omega : G.D c = 0 ∨ 0 < G.D c) with h8 | h8
    · exact done_quiet W w h K X I (Lib.hid hK) c hc hX hE h8
    · exact done_late W w h K X I (Lib.hid hK) c hc hX hE h8
  · rcases call_cases G c (I % 1000) (by omega) with ⟨v, h1, h2⟩ | ⟨v, h1, h2⟩ | h1
    · exact done_nocall W w h K X I (Lib.hid hK) c hc hX hE _ (Lib.hid rfl) G v h1 h2 h.rel rfl
    · exact done_nocall W w h K X I (Lib.hid hK) c hc hX hE _ (Lib.hid rfl) _ v h1 h2 h.rel.cal (cal_D G)
    · exact done_call W w h K X I (Lib.hid hK) c hc hX hE _ (Lib.hid rfl) _ h1 (h.rel.called h.c3 c _) (cal_D G)
  · exact done_poll W w h K X I (Lib.hid hK) c hc hX
end

end Go.Proofs.Ytodaknidbdicdaa
