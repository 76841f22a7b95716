/-
  works: the chapter's machine.
-/
import Derived.Test.YtodaknidbdicdaaStep
import Derived.WalkKit
import Derived.Deep.DeepMust
import Derived.WalkSpells
import Derived.WalkLawsBesides
import Derived.Handy
import Derived.Lib.Hide
import Derived.Deep.QuietTactic
import Derived.BigQuiet
namespace Go.Proofs.Ytodaknidbdicdaa
open Go.RowKit

section
variable {b : Nat} {gs : List Nat} {G : Gr}
theorem own_one {w w1 w2 : World} {A : Option Addr} {n c : Nat} {xs : List Value} (h : w1.ownsRow w.heap.size 3 1 (.slice A n c) n xs) (hT : One b w1 w2) (hl : b < w.heap.size) : Row w2 A xs :=
  Row.one (Row.of_own h) hT (fun hp g off e hm => by
    have hx : xs.length = n := by have := h.1; omega
    obtain ⟨g', cap, hv, hb, -⟩ := h.form (by omega)
    subst e
    injection hv with h1
    injection h1 with h2
    injection h2 with h3
    omega)

set_option maxHeartbeats 2000000 in
theorem polls_any (w : World) (h : GrAt w b gs G) (hI : Inv G) (x : Int) (G1 : Gr) (h1 : pollI G x = G1) (h2 : pollE G x = 0) (l m : List Int) (h3 : pollL G x = l) (hl : l.length ≤ 256) (hm : m.length ≤ 256) (A : Option Addr) (c : Nat) (hA : Row w A (intsV m)) (hne : 0 < m.length → ∀ g off, A = some ⟨g, off, none⟩ → g ≠ b) (v : Bool) (hv : decide (l = m) = v) :
    Calls Try.prog 22 #[.pointer (some ⟨b, 0, none⟩), .int .i64 x, .slice A m.length c] w fun e w' => e = .returned (.bool v) ∧ GrAt w' b gs G1 ∧ One b w w' := by
  have HI := Lib.hid hI
  have H1 := Lib.hid h1
  have H2 := Lib.hid h2
  have H3 := Lib.hid h3
  have HV := Lib.hid hv
  have hl : Hid (l.length ≤ 9223372036854775807) := Lib.hid (by omega)
  have hm : Hid (m.length ≤ 9223372036854775807) := Lib.hid (by omega)
  have hne := Lib.hid hne
  clear hI h1 h2 h3 hv
  go_enter Try.func22, Try.ntmps22
  go_wp2_with (first | (go_at_call 13; (with_reducible refine (poll_any _ h HI.out x G1 0 l H1.out H2.out H3.out).mono ?_); rintro e w3 ⟨A3, c3, rfl, ho3, hN, hT⟩; have hr3 := Row.of_own ho3; have hA3 := Row.one hA hT (fun hp => hne.out (by rw [intsV_len] at hp; exact hp))) | (go_at_call 34; (with_reducible refine (eqInts_any l m A3 A c3 c _ hl.out hm.out hr3 hA3).mono ?_); rintro e w5 ⟨rfl, hb5⟩; rw [HV.out]; replace hT := hT.trans (One.of_below b hb5); replace hN := hN.below hb5))
  go_ret
  exact ⟨rfl, hN, hT⟩
theorem polls_nil (w : World) (h : GrAt w b gs G) (hI : Inv G) (x : Int) (G1 : Gr) (h1 : pollI G x = G1) (h2 : pollE G x = 0) (h3 : pollL G x = []) :
    Calls Try.prog 22 #[.pointer (some ⟨b, 0, none⟩), .int .i64 x, .slice none 0 0] w fun e w' => e = .returned (.bool true) ∧ GrAt w' b gs G1 ∧ One b w w' :=
  polls_any w h hI x G1 h1 h2 [] [] h3 (by decide) (by decide) none 0 (Row.nil _ _) (fun h => absurd h (by decide)) true rfl
theorem polls_one (w : World) (h : GrAt w b gs G) (hI : Inv G) (x : Int) (G1 : Gr) (h1 : pollI G x = G1) (h2 : pollE G x = 0) (y : Int) (h3 : pollL G x = [y]) (g : Nat) (c : Nat) (hA : Row w (some ⟨g, 0, none⟩) (intsV [y])) (hne : g ≠ b) :
    Calls Try.prog 22 #[.pointer (some ⟨b, 0, none⟩), .int .i64 x, .slice (some ⟨g, 0, none⟩) 1 c] w fun e w' => e = .returned (.bool true) ∧ GrAt w' b gs G1 ∧ One b w w' :=
  polls_any w h hI x G1 h1 h2 [y] [y] h3 (by simp) (by simp) (some ⟨g, 0, none⟩) c hA (fun _ g' off e => by injection e with e; injection e with e1; omega) true (decide_eq_true rfl)
theorem row_one (w : World) (t : TypeId) (y : Int) : Row (w.alloc (.cells #[.int .i64 y] t)) (some ⟨w.heap.size, 0, none⟩) (intsV [y]) := fun _ =>
  ⟨_, 0, rfl, by rw [World.size_alloc]; exact Nat.lt_succ_self _, fun j u hu => by rw [Nat.zero_add, (Blk.new w t #[.int .i64 y]).cell, ← Array.getElem?_toList]; exact hu⟩
set_option maxHeartbeats 2000000 in
theorem stands_any (w : World) (h : GrAt w b gs G) (hI : Inv G) (E : Int) (q : Bool) (hE : (G.E : Int) = E) (hq : G.go = q) :
    Calls Try.prog 23 #[.pointer (some ⟨b, 0, none⟩), .int .i64 E, .bool q] w fun e w' => e = .returned (.bool true) ∧ GrAt w' b gs G ∧ Below w.heap.size w w' := by
  have HI := Lib.hid hI
  clear hI
  have hqq : (q == q) = true := beq_self_eq_true q
  go_enter Try.func23, Try.ntmps23
  go_wp2_with (first | (go_at_call 14; (with_reducible refine (done_any _ b gs G h HI.out).mono ?_); rintro e w1 ⟨rfl, hb1⟩; rw [hE, hq]; replace h := h.below hb1))
  go_ret
  exact ⟨rfl, h, hb1⟩
end

def V0 : Gr := newG 2
def V1 : Gr := (lockI V0 0).1
def V2 : Gr := (callI V1 1 7).1
def V3 : Gr := (quietI V2 1).1
def V4 : Gr := (quietI V3 0).1
def V5 : Gr := pollI V4 1
def V6 : Gr := (unlockI V5 0).1
def V7 : Gr := pollI V6 1
def V8 : Gr := (quietI V7 0).1
def V9 : Gr := pollI V8 1
def V10 : Gr := (callI V9 0 8).1
def V11 : Gr := (callI V10 0 9).1
def V12 : Gr := (quietI V11 0).1
def V13 : Gr := (quietI V12 1).1
def V14 : Gr := pollI V13 0
theorem pair_of {α β : Type} {p : α × β} {y : β} (h : p.2 = y) : p = (p.1, y) := by rw [← h]

set_option maxRecDepth 100000 in
set_option maxHeartbeats 4000000 in
theorem works_any (w : World) : Calls Try.prog 6 #[] w fun e w' => e = .returned (.bool true) ∧ Below w.heap.size w w' := by
  have I0 : Inv V0 := Inv.new (by omega) (by omega)
  have e1 : lockI V0 0 = (V1, 0) := pair_of (by decide +kernel)
  have I1 := (lock_nxt I0 e1).1
  have e2 : callI V1 1 7 = (V2, 0) := pair_of (by decide +kernel)
  have I2 := (call_nxt I1 e2).1
  have e3 : quietI V2 1 = (V3, 0) := pair_of (by decide +kernel)
  have I3 := (quiet_nxt I2 e3).1
  have e4 : quietI V3 0 = (V4, 292) := pair_of (by decide +kernel)
  have I4 := (quiet_nxt I3 e4).1
  have I5 := (poll_nxt (x := 1) (G1 := V5) I4 rfl).1
  have e6 : unlockI V5 0 = (V6, 0) := pair_of (by decide +kernel)
  have I6 := (unlock_nxt I5 e6).1
  have I7 := (poll_nxt (x := 1) (G1 := V7) I6 rfl).1
  have e8 : quietI V7 0 = (V8, 0) := pair_of (by decide +kernel)
  have I8 := (quiet_nxt I7 e8).1
  have I9 := (poll_nxt (x := 1) (G1 := V9) I8 rfl).1
  have e10 : callI V9 0 8 = (V10, 0) := pair_of (by decide +kernel)
  have I10 := (call_nxt I9 e10).1
  have e11 : callI V10 0 9 = (V11, 0) := pair_of (by decide +kernel)
  have I11 := (call_nxt I10 e11).1
  have e12 : quietI V11 0 = (V12, 0) := pair_of (by decide +kernel)
  have I12 := (quiet_nxt I11 e12).1
  have e13 : quietI V12 1 = (V13, 0) := pair_of (by decide +kernel)
  have I13 := (quiet_nxt I12 e13).1
  have p5 : Hid (pollL V4 1 = []) := Lib.hid (by decide +kernel)
  have p7 : Hid (pollL V6 1 = []) := Lib.hid (by decide +kernel)
  have p9 : Hid (pollL V8 1 = [7]) := Lib.hid (by decide +kernel)
  have p14 : Hid (pollL V13 0 = [8]) := Lib.hid (by decide +kernel)
  have q5 : Hid (pollE V4 1 = 0) := Lib.hid (by decide +kernel)
  have q7 : Hid (pollE V6 1 = 0) := Lib.hid (by decide +kernel)
  have q9 : Hid (pollE V8 1 = 0) := Lib.hid (by decide +kernel)
  have q14 : Hid (pollE V13 0 = 0) := Lib.hid (by decide +kernel)
  have s8 : Hid ((V8.E : Int) = 1) := Lib.hid (by decide +kernel)
  have t8 : Hid (V8.go = false) := Lib.hid (by decide +kernel)
  have s13 : Hid ((V13.E : Int) = 2) := Lib.hid (by decide +kernel)
  have t13 : Hid (V13.go = true) := Lib.hid (by decide +kernel)
  have E1 : V1.E ≤ 1000000 := by decide +kernel
  have E2 : V2.E ≤ 1000000 := by decide +kernel
  have E3 : V3.E ≤ 1000000 := by decide +kernel
  have E7 : V7.E ≤ 1000000 := by decide +kernel
  have E9 : V9.E ≤ 1000000 := by decide +kernel
  have E10 : V10.E ≤ 1000000 := by decide +kernel
  have E11 : V11.E ≤ 1000000 := by decide +kernel
  have E12 : V12.E ≤ 1000000 := by decide +kernel
  have E1 := Lib.hid E1
  have E2 := Lib.hid E2
  have E3 := Lib.hid E3
  have E7 := Lib.hid E7
  have E9 := Lib.hid E9
  have E10 := Lib.hid E10
  have E11 := Lib.hid E11
  have E12 := Lib.hid E12
  have hnew := Lib.hid (fun v : World => (new_ok 2 (by omega) (by omega) v))
  have I0 := Lib.hid I0
  have I1 := Lib.hid I1
  have I2 := Lib.hid I2
  have I3 := Lib.hid I3
  have I4 := Lib.hid I4
  have I5 := Lib.hid I5
  have I6 := Lib.hid I6
  have I7 := Lib.hid I7
  have I8 := Lib.hid I8
  have I9 := Lib.hid I9
  have I10 := Lib.hid I10
  have I11 := Lib.hid I11
  have I12 := Lib.hid I12
  have I13 := Lib.hid I13
  have e1 := Lib.hid e1
  have e2 := Lib.hid e2
  have e3 := Lib.hid e3
  have e4 := Lib.hid e4
  have e6 := Lib.hid e6
  have e8 := Lib.hid e8
  have e10 := Lib.hid e10
  have e11 := Lib.hid e11
  have e12 := Lib.hid e12
  have e13 := Lib.hid e13
  go_enter Try.func6, Try.ntmps6
  go_wp2_with (first | (go_at_call 7; refine (hnew.out _).mono ?_; rintro e w1 ⟨b, rfl, hb, h0, hB⟩; replace h0 : GrAt w1 b [b] V0 := h0) | (go_at_call 15; (with_reducible refine (lock_any _ h0 I0.out 0 V1 0 e1.out).mono ?_); rintro e w2 ⟨rfl, h1, hT⟩; replace hB := hT.below hB hb hB.size; clear hT h0) | (go_at_call 18; (with_reducible refine (call_any _ h1 I1.out E1.out 1 7 V2 0 e2.out).mono ?_); rintro e w3 ⟨rfl, h2, hT⟩; replace hB := hT.below hB hb hB.size; clear hT h1) | (go_at_call 17; (with_reducible refine (quiet_any _ h2 I2.out E2.out 1 V3 0 e3.out).mono ?_); rintro e w4 ⟨rfl, h3, hT⟩; replace hB := hT.below hB hb hB.size; clear hT h2) | (go_at_call 17; (with_reducible refine (quiet_any _ h3 I3.out E3.out 0 V4 292 e4.out).mono ?_); rintro e w5 ⟨rfl, h4, hT⟩; replace hB := hT.below hB hb hB.size; clear hT h3) | (go_at_call 22; (with_reducible refine (polls_nil _ h4 I4.out 1 V5 rfl q5.out p5.out).mono ?_); rintro e w6 ⟨rfl, h5, hT⟩; replace hB := hT.below hB hb hB.size; clear hT h4) | (go_at_call 16; (with_reducible refine (unlock_any _ h5 I5.out 0 V6 0 e6.out).mono ?_); rintro e w7 ⟨rfl, h6, hT⟩; replace hB := hT.below hB hb hB.size; clear hT h5) | (go_at_call 22; (with_reducible refine (polls_nil _ h6 I6.out 1 V7 rfl q7.out p7.out).mono ?_); rintro e w8 ⟨rfl, h7, hT⟩; replace hB := hT.below hB hb hB.size; clear hT h6) | (go_at_call 17; (with_reducible refine (quiet_any _ h7 I7.out E7.out 0 V8 0 e8.out).mono ?_); rintro e w9 ⟨rfl, h8, hT⟩; replace hB := hT.below hB hb hB.size; clear hT h7) | (go_at_call 23; (with_reducible refine (stands_any _ h8 I8.out 1 false s8.out t8.out).mono ?_); rintro e w10 ⟨rfl, h8', hT⟩; replace hB := hB.trans (hT.mono hB.size); clear hT h8) | (go_at_call 22; ((with_reducible refine (polls_one _ (h8'.alloc _) I8.out 1 V9 rfl q9.out 7 p9.out _ _ (row_one _ _ 7) (by have := h8'.lt; omega)).mono ?_); rintro e w11 ⟨rfl, h9, hT⟩; replace hB := hT.below (hB.alloc hB.size _) hb (hB.alloc hB.size _).size; clear hT h8')) | (go_at_call 18; (with_reducible refine (call_any _ h9 I9.out E9.out 0 8 V10 0 e10.out).mono ?_); rintro e w12 ⟨rfl, h10, hT⟩; replace hB := hT.below hB hb hB.size; clear hT h9) | (go_at_call 18; (with_reducible refine (call_any _ h10 I10.out E10.out 0 9 V11 0 e11.out).mono ?_); rintro e w13 ⟨rfl, h11, hT⟩; replace hB := hT.below hB hb hB.size; clear hT h10) | (go_at_call 17; (with_reducible refine (quiet_any _ h11 I11.out E11.out 0 V12 0 e12.out).mono ?_); rintro e w14 ⟨rfl, h12, hT⟩; replace hB := hT.below hB hb hB.size; clear hT h11) | (go_at_call 17; (with_reducible refine (quiet_any _ h12 I12.out E12.out 1 V13 0 e13.out).mono ?_); rintro e w15 ⟨rfl, h13, hT⟩; replace hB := hT.below hB hb hB.size; clear hT h12) | (go_at_call 23; (with_reducible refine (stands_any _ h13 I13.out 2 true s13.out t13.out).mono ?_); rintro e w16 ⟨rfl, h13', hT⟩; replace hB := hB.trans (hT.mono hB.size); clear hT h13) | (go_at_call 22; ((with_reducible refine (polls_one _ (h13'.alloc _) I13.out 0 V14 rfl q14.out 8 p14.out _ _ (row_one _ _ 8) (by have := h13'.lt; omega)).mono ?_); rintro e w17 ⟨rfl, h14, hT⟩; replace hB := hT.below (hB.alloc hB.size _) hb (hB.alloc hB.size _).size; clear hT h13')))
  go_ret
  exact ⟨rfl, hB⟩

end Go.Proofs.Ytodaknidbdicdaa
