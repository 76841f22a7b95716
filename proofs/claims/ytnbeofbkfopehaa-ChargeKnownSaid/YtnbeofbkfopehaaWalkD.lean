/-
  The walk of Try.
-/
import Derived.Test.YtnbeofbkfopehaaWalkE
import Derived.WalkKit
import Derived.Deep.DeepMust
import Derived.WalkSpells
import Derived.WalkLawsBesides
import Derived.Handy
import Derived.Lib.Hide
import Derived.Deep.QuietTactic
import Derived.BigQuiet
namespace Go.Proofs.Ytnbeofbkfopehaa
open Go.RowKit

/-- What a round defers. -/
def Dfr (Rf X Y G : Nat) : Deferred := { target := .fn (.func 24) #[.pointer (some ⟨Rf, 0, none⟩), .pointer (some ⟨X, 0, none⟩), .pointer (some ⟨G, 0, none⟩), .pointer (some ⟨Y, 0, none⟩)], args := #[] }
/-- The stack of what is deferred: undone one by one it brings U back to U0. -/
def Stk (w : World) (Rf X Y b : Nat) (n : Int) (M U0 : Nat → Int) : List Deferred → (Nat → Int) → Prop
  | [], U => U = U0
  | d :: ds, U => ∃ (G k : Nat), d = Dfr Rf X Y G ∧ (G ≠ b ∧ G ≠ Rf) ∧ w.cell? ⟨G, 0, none⟩ = some (.int .i64 ((k : Int) + 1)) ∧ k < 16 ∧ Fine U M ∧ Stk w Rf X Y b n M U0 ds (upd U k (U k - n))
theorem One.keeps {b : Nat} {w w' : World} (h : One b w w') {p : Addr} {v : Value} (hp : p.block ≠ b) (hc : w.cell? p = some v) : w'.cell? p = some v :=
  (World.cell?_of_block (w := w) (h.block p.block (World.block_lt_of_cell? w p hc) hp)).trans hc
theorem Stk.one {w w' : World} {Rf X Y b : Nat} {n : Int} {M U0 : Nat → Int} (hT : One b w w') : ∀ {ds : List Deferred} {U : Nat → Int}, Stk w Rf X Y b n M U0 ds U → Stk w' Rf X Y b n M U0 ds U
  | [], _, h => h
  | _ :: _, _, ⟨G, k, h1, h2, h3, h4, h5, h6⟩ => ⟨G, k, h1, h2, hT.keeps (p := ⟨G, 0, none⟩) h2.1 h3, h4, h5, h6.one hT⟩
theorem Stk.setRf {w : World} {Rf X Y b : Nat} {n : Int} {M U0 : Nat → Int} (v : Value) : ∀ {ds : List Deferred} {U : Nat → Int}, Stk w Rf X Y b n M U0 ds U → Stk (w.setCell ⟨Rf, 0, none⟩ v) Rf X Y b n M U0 ds U
  | [], _, h => h
  | _ :: _, _, ⟨G, k, h1, h2, h3, h4, h5, h6⟩ => ⟨G, k, h1, h2, cell_setCell (p := ⟨G, 0, none⟩) (q := ⟨Rf, 0, none⟩) h2.2 h3, h4, h5, h6.setRf v⟩

theorem made_func (fn : Fn) (first cap : Array Value) (w : World) : (Instr.makeFunc fn first cap).run Try.prog w = .ok (.func fn first cap) w := rfl

theorem leaves_idle {fn : Func} {tmps : Array Value} {R : Ending → World → Prop} (Rf X Y b : Nat) (n : Int) (M U0 : Nat → Int) (w w0 : World) (hr : w.cell? ⟨Rf, 0, none⟩ = some (.bool false)) (v : Value) (hv : (results fn tmps).run Try.prog w = .ok v w) (hR : R (.returned v) w) :
    ∀ (ds : List Deferred) (U : Nat → Int), Stk w0 Rf X Y b n M U0 ds U → Leaves Try.prog fn tmps R ds .returning w
  | [], _, _ => ⟨v, hv, hR⟩
  | d :: ds, U, ⟨G, k, hd, _, _, _, _, hs⟩ => by
    subst hd
    refine leaves_cons (f := 24) (args := #[.pointer (some ⟨Rf, 0, none⟩), .pointer (some ⟨X, 0, none⟩), .pointer (some ⟨G, 0, none⟩), .pointer (some ⟨Y, 0, none⟩)]) (by simp) (by simp [go_sem]) ?_
    refine (undo_idle w Rf X G Y hr).mono ?_
    rintro e u' w' ⟨rfl, rfl, rfl⟩
    exact leaves_idle Rf X Y b n M U0 _ w0 hr v hv hR ds _ hs

theorem leaves_undo {fn : Func} {tmps : Array Value} {R : Ending → World → Prop} (Rf X Y b : Nat) (n : Int) (hn : 0 ≤ n) (hn2 : n ≤ 9007199254740991) (M U0 : Nat → Int) (hRb : Rf ≠ b) (hXb : X ≠ b) (hYb : Y ≠ b) :
    ∀ (ds : List Deferred) (U : Nat → Int) (w : World), Stk w Rf X Y b n M U0 ds U → ChAt w b U M → w.cell? ⟨Rf, 0, none⟩ = some (.bool true) → w.cell? ⟨X, 0, none⟩ = some (.pointer (some ⟨b, 0, none⟩)) → w.cell? ⟨Y, 0, none⟩ = some (.int .i64 n) →
      (∀ w', ChAt w' b U0 M → One b w w' → ∃ v, (results fn tmps).run Try.prog w' = .ok v w' ∧ R (.returned v) w') → Leaves Try.prog fn tmps R ds .returning w
  | [], U, w, hs, hC, _, _, _, hv => by
    have hs' : U = U0 := hs
    subst hs'
    exact hv w hC (One.refl _ _)
  | d :: ds, U, w, ⟨G, k, hd, hG, hg, hk, hF, hs⟩, hC, hr, hx, hy, hv => by
    subst hd
    refine leaves_cons (f := 24) (args := #[.pointer (some ⟨Rf, 0, none⟩), .pointer (some ⟨X, 0, none⟩), .pointer (some ⟨G, 0, none⟩), .pointer (some ⟨Y, 0, none⟩)]) (by simp) (by simp [go_sem]) ?_
    refine (undo_do w Rf X G Y b U M hC hF k hk n hn hn2 hr hx hg hy).mono ?_
    rintro e u' w' ⟨rfl, rfl, hC', hT⟩
    exact leaves_undo Rf X Y b n hn hn2 M U0 hRb hXb hYb ds _ w' (hs.one hT) hC' (hT.keeps (p := ⟨Rf, 0, none⟩) hRb hr) (hT.keeps (p := ⟨X, 0, none⟩) hXb hx) (hT.keeps (p := ⟨Y, 0, none⟩) hYb hy) fun w'' h1 h2 => hv w'' h1 (hT.trans h2)

/-- The first group of a path that has no room for n; 0: each has. -/
def fullF (U M : Nat → Int) (n : Int) : List Int → Int
  | [] => 0
  | x :: r => bif decide (n ≤ M (x - 1).toNat - U (x - 1).toNat) then fullF U M n r else x
theorem fullF_end {U M : Nat → Int} {n : Int} {xs : List Int} {k : Nat} (h : xs.length ≤ k) : fullF U M n (xs.drop k) = 0 := by rw [List.drop_eq_nil_of_le h]; rfl
theorem fullF_step {U M : Nat → Int} {n : Int} {xs : List Int} {j k : Nat} (h : j < xs.length) (hk : xs[j] = (k : Int) + 1) : fullF U M n (xs.drop j) = bif decide (n ≤ M k - U k) then fullF U M n (xs.drop (j + 1)) else (k : Int) + 1 := by
  rw [List.drop_eq_getElem_cons h, hk]
  show (bif decide (n ≤ M ((k : Int) + 1 - 1).toNat - U ((k : Int) + 1 - 1).toNat) then _ else _) = _
  rw [show ((k : Int) + 1 - 1).toNat = k by omega]
theorem ask_sub {xs : List Int} {n : Int} (h : askF xs n = 0) {j : Nat} (hj : j < xs.length) : askF [xs[j]] n = 0 := by
  obtain ⟨h1, h2⟩ := askF_zero.1 h
  obtain ⟨h3, h4⟩ := allG_at h1 hj
  obtain ⟨-, -, -, h5, h6⟩ := fitB_iff.1 h2
  exact askF_ok (by simp [allG, grpB, h3, h4]) (fitB_iff.2 ⟨by simp, by simp, by simp, h5, h6⟩)
theorem Fine.up {U M : Nat → Int} (h : Fine U M) {k : Nat} {n : Int} (hn : 0 ≤ n) (hq : n ≤ M k - U k) : Fine (upd U k (U k + n)) M := by
  intro i hi
  obtain ⟨h1, h2, h3, h4⟩ := h i hi
  unfold upd
  by_cases hik : i = k
  · subst hik
    rw [if_pos rfl]
    omega
  · rw [if_neg hik]
    exact ⟨h1, h2, h3, h4⟩
theorem upd_back (U : Nat → Int) (k : Nat) (n : Int) : upd (upd U k (U k + n)) k (upd U k (U k + n) k - n) = U := by
  funext i
  unfold upd
  by_cases hik : i = k
  · subst hik
    simp [Int.add_sub_cancel]
  · simp [hik]

/-- What Try leaves. -/
def TryPost (w : World) (b : Nat) (U M : Nat → Int) (xs : List Int) (n : Int) (r : Ending) (w' : World) : Prop :=
  (fullF U M n xs = 0 ∧ r = .returned (.tuple #[.int .i64 0, .int .i64 0]) ∧ ChAt w' b (addP U xs n) M ∧ One b w w') ∨
  (fullF U M n xs ≠ 0 ∧ r = .returned (.tuple #[.int .i64 (fullF U M n xs), .int .i64 120]) ∧ ChAt w' b U M ∧ One b w w')

set_option maxHeartbeats 8000000 in
theorem try_ok (w : World) (b : Nat) (U M : Nat → Int) (hC : ChAt w b U M) (hF : Fine U M) (xs : List Int) (m : Nat) (hm : Hid (xs.length = m)) (hm8 : m ≤ 8) (n : Int) (g off c : Nat) (hgb : g ≠ b) (hg : g < w.heap.size) (hA : ∀ j u, (intsV xs)[j]? = some u → w.cell? ⟨g, off + j, none⟩ = some u) (hR : Row w (some ⟨g, off, none⟩) (intsV xs)) (he : Hid (askF xs n = 0)) :
    Calls Try.prog 11 #[.pointer (some ⟨b, 0, none⟩), .slice (some ⟨g, off, none⟩) m c, .int .i64 n] w (TryPost w b U M xs n) := by
  have hmf := @made_func
  have bl := hC.lt
  obtain ⟨hG, hfit⟩ := askF_zero.1 he.out
  obtain ⟨hnd, -, -, hn0, hn1⟩ := fitB_iff.1 hfit
  have HND := Lib.hid hnd
  have HF := Lib.hid hF
  have HA := Lib.hid hA
  have hgrp : Hid (∀ j, j < xs.length → ∃ k : Nat, k < 16 ∧ xs[j]? = some ((k : Int) + 1)) := Lib.hid (fun j hj => by
    obtain ⟨h1, h2⟩ := allG_at hG hj
    exact ⟨(xs[j] - 1).toNat, by omega, by rw [List.getElem?_eq_getElem hj]; congr 1; omega⟩)
  obtain ⟨R, hRf⟩ : ∃ R, fullF U M n xs = R := ⟨_, rfl⟩
  have HRF := Lib.hid hRf
  have HC := Lib.hid ((hC.alloc (.cells #[.pointer (some ⟨b, 0, none⟩)] 23)).alloc (.cells #[.int .i64 n] 3))
  have HR := Lib.hid ((hR.alloc (.cells #[.pointer (some ⟨b, 0, none⟩)] 23)).alloc (.cells #[.int .i64 n] 3))
  clear hC hR hG hfit hnd hF hA hRf
  go_enter_defers Try.func11, Try.ntmps11
  go_wp2_with (first | (go_at_call 23; (with_reducible refine (asked_any _ b U M HC.out xs m hm (by omega) n _ c HR.out 0 he.out).mono ?_); rintro r w1 ⟨rfl, hb1⟩))
  have z1 := hb1.size
  rw [World.size_alloc, World.size_alloc] at z1
  have HX : Blk w1 w.heap.size 23 #[.pointer (some ⟨b, 0, none⟩)] := ((Blk.new w 23 _).alloc _).below hb1
  have HY : Blk w1 (w.heap.size + 1) 3 #[.int .i64 n] := (Blk.new2 w _ 3 _).below hb1
  have HT1 : One b w w1 := One.of_below b (below_box2 hb1)
  refine wp_loop (fun a w' => ∃ (j : Nat) (ds : List Deferred) (u11 u22 u23 u24 u25 u26 u27 u28 u29 u30 u31 u32 u33 : Value), a = { tmps := #[.pointer (some ⟨b, 0, none⟩), .slice (some ⟨g, off, none⟩) m c, .int .i64 n, .pointer (some ⟨w.heap.size, 0, none⟩), undef, .pointer (some ⟨w.heap.size + 1, 0, none⟩), .int .i64 0, .int .i64 0, .int .i64 0, .pointer (some ⟨w1.heap.size, 0, none⟩), undef, u11, .pointer (some ⟨b, 0, none⟩), .slice (some ⟨g, off, none⟩) m c, .int .i64 n, .int .i64 0, .int .i64 0, .bool false, undef, .slice (some ⟨g, off, none⟩) m c, .int .i64 (m : Int), .int .i64 (j : Int), u22, u23, u24, u25, u26, u27, u28, u29, u30, u31, u32, u33, undef, undef], defers := ds } ∧ j ≤ m ∧ Hid (fullF U M n (xs.drop j) = R) ∧ Stk w' w1.heap.size w.heap.size (w.heap.size + 1) b n M U ds (addP U (xs.take j) n) ∧ ChAt w' b (addP U (xs.take j) n) M ∧ Fine (addP U (xs.take j) n) M ∧ Blk w' w1.heap.size 4 #[.bool false] ∧ Blk w' w.heap.size 23 #[.pointer (some ⟨b, 0, none⟩)] ∧ Blk w' (w.heap.size + 1) 3 #[.int .i64 n] ∧ One b w w') (fun a _ => m - (intOf (a.tmps.getD 21 undef)).toNat) ?_ ?_
  · exact ⟨0, [], undef, undef, undef, undef, undef, undef, undef, undef, undef, undef, undef, undef, undef, rfl, by omega, HRF, by rw [List.take_zero, addP_nil]; rfl, by rw [List.take_zero, addP_nil]; exact (HC.out.below hb1).alloc _, by rw [List.take_zero, addP_nil]; exact HF.out, Blk.new w1 4 _, HX.alloc _, HY.alloc _, HT1.alloc _⟩
  · rintro a wr ⟨j, ds, u11, u22, u23, u24, u25, u26, u27, u28, u29, u30, u31, u32, u33, rfl, hj, HJ, hS, hC, hFj, hRf, hX, hY, hT⟩
    by_cases hlt : j < m
    · have hjl : j < xs.length := by rw [hm.out]; exact hlt
      obtain ⟨k, hk16, hxk⟩ := hgrp.out j hjl
      have hxk' : xs[j] = (k : Int) + 1 := by rw [List.getElem?_eq_getElem hjl] at hxk; injection hxk
      have cK : wr.cell? ⟨g, off + j, none⟩ = some (.int .i64 ((k : Int) + 1)) := by
        rw [World.cell?_of_block (w := w) (hT.block g hg hgb), HA.out j _ (intsV_at hjl), hxk']
      have hns := seen_no HND.out hjl hxk'
      obtain ⟨ha1, ha2⟩ := addP_next (U := U) (d := n) hjl hxk' hns
      have HS := Lib.hid (fullF_step (U := U) (M := M) (n := n) hjl hxk')
      have heS : Hid (askF [(k : Int) + 1] n = 0) := Lib.hid (by rw [← hxk']; exact ask_sub he.out hjl)
      obtain ⟨V, hV⟩ : ∃ V, addP U (xs.take j) n = V := ⟨_, rfl⟩
      rw [hV] at hS hC hFj ha1 ha2
      have HE : Hid (addP U (xs.take (j + 1)) n = upd V k (V k + n)) := Lib.hid (by rw [ha1, ha2])
      have HV2 := Lib.hid ha2
      have hXa := (hX.alloc (.cells #[.int .i64 ((k : Int) + 1)] 3))
      have hYa := (hY.alloc (.cells #[.int .i64 ((k : Int) + 1)] 3))
      have hRa := (hRf.alloc (.cells #[.int .i64 ((k : Int) + 1)] 3))
      have hXc := hXa.cell
      have hYc := hYa.cell
      have bl2 := hC.lt
      have HCa := Lib.hid (hC.alloc (.cells #[.int .i64 ((k : Int) + 1)] 3))
      have HFj := Lib.hid hFj
      have HSt := Lib.hid hS
      have hG : Blk (wr.alloc (.cells #[.int .i64 ((k : Int) + 1)] 3)) wr.heap.size 3 #[.int .i64 ((k : Int) + 1)] := Blk.new wr 3 _
      have hsz := hT.size
      have hrl := hRf.lt
      have j0 : (0 : Int) ≤ (j : Int) := by omega
      have j1 : (j : Int) < (m : Int) := by omega
      have hx1 : (k : Int) + 1 - 1 = (k : Int) := by omega
      have HVe := Lib.hid hV
      clear hxk hxk' hjl hns ha1 ha2 hC hFj hS hX hY hV
      by_cases hq : n ≤ M k - V k
      · have HN : Hid (fullF U M n (xs.drop (j + 1)) = R) := Lib.hid (by have h := HJ.out; rw [HS.out, ← HV2.out, decide_eq_true hq] at h; exact h)
        have HQ := Lib.hid hq
        clear hq
        go_wp2_with (first | (go_at_call 21; (with_reducible refine (up_ok _ b V M HCa.out HFj.out ((k : Int) + 1) n k hk16 hx1 heS HQ.out).mono ?_); rintro r w3 ⟨rfl, hC3, hT3⟩))
        have hTw : One b wr w3 := ((One.refl b wr).alloc _).trans hT3
        have hgG : wr.heap.size ≠ b := by omega
        have hcell : w3.cell? ⟨wr.heap.size, 0, none⟩ = some (.int .i64 ((k : Int) + 1)) := (hG.one hT3 hgG).cell 0
        refine ⟨⟨j + 1, Dfr w1.heap.size w.heap.size (w.heap.size + 1) wr.heap.size :: ds, _, _, _, _, _, _, _, _, _, _, _, _, _, by rw [Int.natCast_add]; rfl, by omega, HN, ⟨wr.heap.size, k, rfl, ⟨hgG, by omega⟩, hcell, hk16, by rw [HE.out]; exact HFj.out.up hn0 HQ.out, by rw [HE.out, upd_back]; exact HSt.out.one hTw⟩, by rw [HE.out]; exact hC3, by rw [HE.out]; exact HFj.out.up hn0 HQ.out, hRa.one hT3 (by omega), hXa.one hT3 (by omega), hYa.one hT3 (by omega), hT.trans hTw⟩, by simp [intOf]; omega⟩
      · have HRk : Hid (R = (k : Int) + 1) := Lib.hid (by have h := HJ.out; rw [HS.out, ← HV2.out, decide_eq_false hq] at h; exact h.symm)
        have HQ : Hid (M k - V k < n) := Lib.hid (by omega)
        have hra := hRa.frozen 0
        clear hq
        go_wp2_with (first | (go_at_call 21; (with_reducible refine (up_full _ b V M HCa.out HFj.out ((k : Int) + 1) n k hk16 hx1 heS HQ.out).mono ?_); rintro r w3 ⟨rfl, hb3⟩; have hG3 := (hG.below hb3).cell; have hR3 := hRa.below hb3; have hf3 := hR3.frozen; have hc3 := hR3.cell))
        go_region
        all_goals go_wp2
        have hne : w1.heap.size ≠ b := by omega
        have hSt3 : Stk w3 w1.heap.size w.heap.size (w.heap.size + 1) b n M U ds V := (HSt.out.one ((One.refl b wr).alloc _)).one (One.of_below b hb3)
        have hC3 : ChAt w3 b V M := HCa.out.below hb3
        have hT3 : One b w w3 := hT.trans (((One.refl b wr).alloc _).trans (One.of_below b hb3))
        refine leaves_undo w1.heap.size w.heap.size (w.heap.size + 1) b n hn0 hn1 M U hne (by omega) (by omega) ds V ((w3.setCell ⟨w1.heap.size, 0, none⟩ (.bool true)).drew) ((hSt3.setRf (.bool true)).one ((One.refl b _).drew)) (hC3.far (p := ⟨w1.heap.size, 0, none⟩) (fun e => hne e.symm) _) ((hR3.set_ 0 (.bool true)).cell 0) (((hXa.below hb3).far (p := ⟨w1.heap.size, 0, none⟩) (by show w.heap.size ≠ w1.heap.size; omega) _).cell 0) (((hYa.below hb3).far (p := ⟨w1.heap.size, 0, none⟩) (by show w.heap.size + 1 ≠ w1.heap.size; omega) _).cell 0) ?_
        intro w' hC' hT'
        refine ⟨.tuple #[.int .i64 ((k : Int) + 1), .int .i64 120], by simp [results, Try.results11, go_sem]; try rfl, .inr ⟨by rw [HRF.out, HRk.out]; omega, by rw [HRF.out, HRk.out], hC', (hT3.setNew (p := ⟨w1.heap.size, 0, none⟩) (by show w.heap.size ≤ w1.heap.size; omega) _).drew.trans hT'⟩⟩
    · have hjm : j = m := by omega
      subst hjm
      rw [List.take_of_length_le (by rw [hm.out]; exact Nat.le_refl _)] at hC
      have hz : R = 0 := by rw [← HJ.out, fullF_end (by rw [hm.out]; exact Nat.le_refl _)]
      have HZ : Hid (fullF U M n xs = 0) := Lib.hid (HRF.out.trans hz)
      clear hz
      go_wp2
      exact leaves_idle w1.heap.size w.heap.size (w.heap.size + 1) b n M U wr wr (hRf.cell 0) (.tuple #[.int .i64 0, .int .i64 0]) (by simp [results, Try.results11, go_sem]; try rfl) (.inl ⟨HZ.out, rfl, hC, hT⟩) ds _ hS

end Go.Proofs.Ytnbeofbkfopehaa
