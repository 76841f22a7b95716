/-
  The walks of Check's deferred closure, Check.
-/
import Derived.Test.YtindgcbnpbhciaaWalkC
import Derived.Defers
import Derived.Recover
import Derived.Laws.Pointers
import Derived.WalkKit
import Derived.Deep.DeepMust
import Derived.WalkSpells
import Derived.WalkLawsBesides
import Derived.Handy
import Derived.Lib.Hide
import Derived.Deep.QuietTactic
import Derived.BigQuiet
namespace Go.Proofs.Ytindgcbnpbhciaa
open Go.RowKit

theorem catch_panicking (p q : Addr) (x y : Int) (pv : Int) (older : List PanicEntry) (w : World) (hc : w.cell? p = some (.int .i64 x)) (hz : w.frozen? p = false) (hd : w.cell? q = some (.int .i64 y)) (hy : w.frozen? q = false) (hne : p ≠ q) :
    CallsD Try.prog 23 #[.pointer (some p), .pointer (some q)] (.panicking ({ v := .iface 41 (.int .i64 pv), recovered := false } :: older)) w fun e u' w' =>
      e = .returned (.tuple #[]) ∧ u' = .panicking ({ v := .iface 41 (.int .i64 pv), recovered := true } :: older) ∧ w' = (w.setCell p (.int .i64 pv)).setCell q (.int .i64 180) := by
  have hd2 : (w.setCell p (.int .i64 pv)).cell? q = some (.int .i64 y) := (World.cell?_setCell_other _ _ _ _ hne).trans hd
  have hy2 : (w.setCell p (.int .i64 pv)).frozen? q = false := by simpa [go_sem] using hy
  have hta : ∀ w : World, (Instr.typeAssert (.iface 41 (.int .i64 pv)) 20 41 false).run Try.prog w = .ok (.int .i64 pv) w := fun _ => by first | rfl | kernel_rfl | simp [Instr.typeAssert, go_sem]
  refine callsD_of_wpS Try.func23 rfl fun c₀ cs hu => ?_
  apply wpS_seq
  apply wpS_region
  simp [wpOpsS, go_sem, recoverD, hu, Try.ntmps23, Exit.thenS]
  apply wpS_seq
  apply wpS_region
  simp [wpOpsS, go_sem, Exit.thenS, Act.eval, Array.replicate]
  refine wpS_cond (t := true) (by simp [Act.eval]) ?_
  simp only [if_true]
  apply wpS_region
  simp [wpOpsS, go_sem, hta, hc, hz, hd2, hy2, bodyPostS, results, Try.results23]

theorem catch_idle (p q : Addr) (w : World) :
    CallsD Try.prog 23 #[.pointer (some p), .pointer (some q)] .returning w fun e u' w' => e = .returned (.tuple #[]) ∧ u' = .returning ∧ w' = w := by
  refine callsD_of_wpS Try.func23 rfl fun c₀ cs hu => ?_
  apply wpS_seq
  apply wpS_region
  simp [wpOpsS, go_sem, recoverD, hu, Try.ntmps23, Exit.thenS]
  apply wpS_seq
  apply wpS_region
  simp [wpOpsS, go_sem, Exit.thenS, Act.eval, Array.replicate]
  refine wpS_cond (t := false) (by simp [Act.eval]) ?_
  simp only [Bool.false_eq_true, if_false]
  refine wpS_of_wp (wp_skip ?_)
  cases c₀
  simp_all [bodyPostS, results, Try.results23]

theorem made_func (fn : Fn) (first cap : Array Value) (w : World) : (Instr.makeFunc fn first cap).run Try.prog w = .ok (.func fn first cap) w := rfl

/-- What Check answers. -/
def Told (w : World) (out : Bool) (xs : List Int) (e : Ending) (w' : World) : Prop := e = .returned (.tuple #[.int .i64 (chkA out xs), .int .i64 (chkE out xs)]) ∧ Below w.heap.size w w'

theorem check_size (w : World) (A : Option Addr) (n c : Nat) (xs : List Int) (hn : Hid (xs.length = n)) (hm : n ≤ 9223372036854775807) (h : n < 17 ∨ 1040 < n) (out : Bool) : Calls Try.prog 13 #[.slice A n c, .bool out] w (Told w out xs) := by
  have HT : Hid (chkA out xs = 0 ∧ chkE out xs = 2) := Lib.hid (chk_size (by rw [hn.out]; unfold sizeOk; exact decide_eq_false (by omega)))
  have hmf := @made_func
  have hw : IntKind.i64.wrap ((n : Int) - 16) = (n : Int) - 16 := IntWalk.i64_in _ (by omega)
  rcases h with h | h
  · have k1 : (n : Int) - 16 < 1 := by omega
    go_enter_defers Try.func13, Try.ntmps13
    go_wp2
    exact ⟨.tuple #[.int .i64 0, .int .i64 2], by simp [results, Try.results13, go_sem]; try rfl, by rw [HT.out.1, HT.out.2], by (repeat' (first | (with_reducible exact Below.refl _ _) | (with_reducible assumption) | (with_reducible refine Below.alloc ?_ ?_ _) | (with_reducible refine below_drewN ?_ _) | (with_reducible refine Below.drew ?_) | (with_reducible refine Below.setCell ?_ ?_ _) | (with_reducible refine below_two ?_ (by with_reducible assumption)) | go_size))⟩
  · have k1 : ¬ (n : Int) - 16 < 1 := by omega
    have k2 : 1024 < (n : Int) - 16 := by omega
    go_enter_defers Try.func13, Try.ntmps13
    go_wp2
    exact ⟨.tuple #[.int .i64 0, .int .i64 2], by simp [results, Try.results13, go_sem]; try rfl, by rw [HT.out.1, HT.out.2], by (repeat' (first | (with_reducible exact Below.refl _ _) | (with_reducible assumption) | (with_reducible refine Below.alloc ?_ ?_ _) | (with_reducible refine below_drewN ?_ _) | (with_reducible refine Below.drew ?_) | (with_reducible refine Below.setCell ?_ ?_ _) | (with_reducible refine below_two ?_ (by with_reducible assumption)) | go_size))⟩

theorem bad_in {xs : List Int} {s : Nat} (hn : xs.length = s + 16) {k : Nat} (hk : k < s + 16) : badF false xs k = true ↔ xs[k]? ≠ (layL s 187 107 165)[k]? := by
  unfold badF
  rw [layL_at hk, hn, Nat.add_sub_cancel, List.getElem?_eq_getElem (by omega), List.getD_eq_getElem?_getD, List.getElem?_eq_getElem (by omega)]
  simp
theorem bad_in' {xs : List Int} {s : Nat} (hn : xs.length = s + 16) {k : Nat} (hk : k < s + 16) : badF false xs k = false ↔ xs[k]? = (layL s 187 107 165)[k]? := by
  rw [← Bool.not_eq_true, bad_in hn hk, Decidable.not_not]

set_option maxHeartbeats 1000000 in
theorem check_in (w : World) (g off s c : Nat) (xs : List Int) (hn : Hid (xs.length = s + 16)) (h1 : 1 ≤ s) (h2 : s ≤ 1024) (hA : Hid (∀ j u, (bV xs)[j]? = some u → w.cell? ⟨g, off + j, none⟩ = some u)) :
    Calls Try.prog 13 #[.slice (some ⟨g, off, none⟩) (s + 16) c, .bool false] w (Told w false xs) := by
  have hsz : sizeOk xs.length = true := by rw [hn.out]; exact sizeOk_iff.2 ⟨by omega, by omega⟩
  have hmf := @made_func
  have k1 : (1 : Int) ≤ (s : Int) := by omega
  have k2 : (s : Int) ≤ 1024 := by omega
  have hL := Lib.hid (layL_len s 187 107 165)
  obtain ⟨F, hF⟩ : ∃ F, firstB (badF false xs) 0 xs.length = F := ⟨_, rfl⟩
  cases F with
  | none =>
    have HT := Lib.hid (chk_none hsz hF)
    have hq : Hid (∀ k, k < s + 16 → xs[k]? = (layL s 187 107 165)[k]?) := Lib.hid (fun k hk => (bad_in' hn.out hk).1 (firstB_none.1 hF k (Nat.zero_le _) (by rw [hn.out]; omega)))
    clear hF hsz
    go_enter_defers Try.func13, Try.ntmps13
    go_wp2_with (first | (go_at_call 21; (with_reducible refine (in_any s h1 h2 (s : Int) rfl _).mono ?_); rintro e w1 ⟨b, d, rfl, hdc, hb, hM, hbw⟩; rw [World.size_alloc, World.size_alloc] at hb; have HM : Hid (∀ j u, (bV (layL s 187 107 165))[j]? = some u → w1.cell? ⟨b, 0 + j, none⟩ = some u) := Lib.hid (by obtain ⟨b', o', e, -, hc⟩ := hM.row (by rw [bV_len, hL.out]; omega); simp only [Option.some.injEq, Addr.mk.injEq] at e; obtain ⟨rfl, rfl, -⟩ := e; exact hc); have HA1 : Hid (∀ j u, (bV xs)[j]? = some u → w1.cell? ⟨g, off + j, none⟩ = some u) := Lib.hid (fun j u hu => cell_below hbw (cell_alloc (cell_alloc (hA.out j u hu)))); have p0 := ((Blk.new w 3 #[.int .i64 0]).alloc (.cells #[.int .i64 0] 23)).below hbw; have p1 := (Blk.new2 w (.cells #[.int .i64 0] 3) 23 #[.int .i64 0]).below hbw; have y0 : w1.cell? ⟨w.heap.size, 0, none⟩ = some (.int .i64 0) := p0.cell 0; have y1 : w1.cell? ⟨w.heap.size + 1, 0, none⟩ = some (.int .i64 0) := p1.cell 0; have z0 := p0.frozen 0; have z1 := p1.frozen 0; have zw := hbw.size; rw [World.size_alloc, World.size_alloc] at zw; clear hM) | (go_at_call 25; (with_reducible refine (must_ok xs (layL s 187 107 165) (s + 16) (s + 16) g off c b 0 d 0 _ hn hL (Nat.le_refl _) (by omega) HA1 HM hq).mono ?_); rintro e w0 ⟨rfl, hw0⟩; replace hw0 := hw0.symm; subst hw0))
    refine leaves_cons (f := 23) (args := #[.pointer (some ⟨w.heap.size, 0, none⟩), .pointer (some ⟨w.heap.size + 1, 0, none⟩)]) (by simp) (by simp [go_sem]) ?_
    refine (catch_idle ⟨w.heap.size, 0, none⟩ ⟨w.heap.size + 1, 0, none⟩ _).mono ?_
    rintro e u' w'' ⟨rfl, rfl, rfl⟩
    refine ⟨.tuple #[.int .i64 0, .int .i64 0], ?_, by rw [HT.out.1, HT.out.2], by (repeat' (first | (with_reducible exact Below.refl _ _) | (with_reducible assumption) | (with_reducible refine Below.alloc ?_ ?_ _) | (with_reducible refine below_drewN ?_ _) | (with_reducible refine Below.drew ?_) | (with_reducible refine Below.setCell ?_ ?_ _) | (with_reducible refine below_two ?_ (by with_reducible assumption)) | go_size))⟩
    simp [results, Try.results13, go_sem, y0, y1]
  | some K =>
    have HT := Lib.hid (chk_some hsz hF)
    obtain ⟨-, hK, hKb, hKq⟩ := firstB_some.1 hF
    rw [hn.out, Nat.zero_add] at hK
    have hq : Hid (∀ k, k < K → xs[k]? = (layL s 187 107 165)[k]?) := Lib.hid (fun k hk => (bad_in' hn.out (by omega)).1 (hKq k (Nat.zero_le _) hk))
    have hb' : Hid (xs[K]? ≠ (layL s 187 107 165)[K]?) := Lib.hid ((bad_in hn.out hK).1 hKb)
    have hz : (0 : Int) + (K : Int) = (K : Int) := by omega
    clear hF hsz hKb hKq
    go_enter_defers Try.func13, Try.ntmps13
    go_wp2_with (first | (go_at_call 21; (with_reducible refine (in_any s h1 h2 (s : Int) rfl _).mono ?_); rintro e w1 ⟨b, d, rfl, hdc, hb, hM, hbw⟩; rw [World.size_alloc, World.size_alloc] at hb; have HM : Hid (∀ j u, (bV (layL s 187 107 165))[j]? = some u → w1.cell? ⟨b, 0 + j, none⟩ = some u) := Lib.hid (by obtain ⟨b', o', e, -, hc⟩ := hM.row (by rw [bV_len, hL.out]; omega); simp only [Option.some.injEq, Addr.mk.injEq] at e; obtain ⟨rfl, rfl, -⟩ := e; exact hc); have HA1 : Hid (∀ j u, (bV xs)[j]? = some u → w1.cell? ⟨g, off + j, none⟩ = some u) := Lib.hid (fun j u hu => cell_below hbw (cell_alloc (cell_alloc (hA.out j u hu)))); have p0 := ((Blk.new w 3 #[.int .i64 0]).alloc (.cells #[.int .i64 0] 23)).below hbw; have p1 := (Blk.new2 w (.cells #[.int .i64 0] 3) 23 #[.int .i64 0]).below hbw; have y0 : w1.cell? ⟨w.heap.size, 0, none⟩ = some (.int .i64 0) := p0.cell 0; have y1 : w1.cell? ⟨w.heap.size + 1, 0, none⟩ = some (.int .i64 0) := p1.cell 0; have z0 := p0.frozen 0; have z1 := p1.frozen 0; have zw := hbw.size; rw [World.size_alloc, World.size_alloc] at zw; clear hM) | (go_at_call 25; (with_reducible refine (must_bad xs (layL s 187 107 165) (s + 16) (s + 16) g off c b 0 d K 0 _ hn hL (Nat.le_refl _) (by omega) (by omega) (by omega) HA1 HM hK hq hb' (K : Int) hz).mono ?_); rintro e w0 ⟨rfl, hw0⟩; replace hw0 := hw0.symm; subst hw0))
    refine leaves_cons (f := 23) (args := #[.pointer (some ⟨w.heap.size, 0, none⟩), .pointer (some ⟨w.heap.size + 1, 0, none⟩)]) (by simp) (by simp [go_sem]) ?_
    refine (catch_panicking ⟨w.heap.size, 0, none⟩ ⟨w.heap.size + 1, 0, none⟩ 0 0 (K : Int) [] _ y0 z0 y1 z1 (by simp)).mono ?_
    rintro e u' w'' ⟨rfl, rfl, rfl⟩
    have y2 : (w1.setCell ⟨w.heap.size, 0, none⟩ (.int .i64 (K : Int))).cell? ⟨w.heap.size + 1, 0, none⟩ = some (.int .i64 0) := (World.cell?_setCell_other _ _ _ _ (by simp)).trans y1
    simp [Leaves, settle, results, Try.results13, go_sem, y0, y2]
    exact ⟨by rw [HT.out.1, HT.out.2], by (repeat' (first | (with_reducible exact Below.refl _ _) | (with_reducible assumption) | (with_reducible refine Below.alloc ?_ ?_ _) | (with_reducible refine below_drewN ?_ _) | (with_reducible refine Below.drew ?_) | (with_reducible refine Below.setCell ?_ ?_ _) | (with_reducible refine below_two ?_ (by with_reducible assumption)) | go_size))⟩


theorem all204 {k : Nat} (hk : k < 16) : (layL 0 204 0 0)[k]? = some 204 := by
  rw [layL_at (by omega)]
  unfold layF
  rw [if_pos (by omega)]
theorem bad_out {xs : List Int} {s : Nat} (hn : xs.length = s + 16) {k : Nat} (hk : k < s + 16) (h : k < 8 ∨ s + 8 ≤ k) : badF true xs k = true ↔ xs[k]? ≠ some 204 := by
  unfold badF
  rw [hn, show s + 16 - 8 = s + 8 by omega, decide_eq_true h, List.getElem?_eq_getElem (by omega), List.getD_eq_getElem?_getD, List.getElem?_eq_getElem (by omega)]
  simp
theorem bad_out' {xs : List Int} {s : Nat} (hn : xs.length = s + 16) {k : Nat} (hk : k < s + 16) (h : k < 8 ∨ s + 8 ≤ k) : badF true xs k = false ↔ xs[k]? = some 204 := by
  rw [← Bool.not_eq_true, bad_out hn hk h, Decidable.not_not]
theorem bad_mid {xs : List Int} {s : Nat} (hn : xs.length = s + 16) {k : Nat} (h : ¬ (k < 8 ∨ s + 8 ≤ k)) : badF true xs k = false := by
  unfold badF
  rw [hn, show s + 16 - 8 = s + 8 by omega, decide_eq_false h]
  rfl
theorem cut_at {xs : List Int} {k j : Nat} (h : j < k) : (xs.take k)[j]? = xs[j]? := List.getElem?_take_of_lt h

set_option maxHeartbeats 2000000 in
theorem check_out (w : World) (g off s c : Nat) (xs : List Int) (hn : Hid (xs.length = s + 16)) (hc : s + 16 ≤ c) (h1 : 1 ≤ s) (h2 : s ≤ 1024) (hA : Hid (∀ j u, (bV xs)[j]? = some u → w.cell? ⟨g, off + j, none⟩ = some u)) :
    Calls Try.prog 13 #[.slice (some ⟨g, off, none⟩) (s + 16) c, .bool true] w (Told w true xs) := by
  have hsz : sizeOk xs.length = true := by rw [hn.out]; exact sizeOk_iff.2 ⟨by omega, by omega⟩
  have hmf := @made_func
  have k1 : (1 : Int) ≤ (s : Int) := by omega
  have k2 : (s : Int) ≤ 1024 := by omega
  have hL := Lib.hid (layL_len 0 204 0 0)
  have hnT : Hid ((xs.take 8).length = 8) := Lib.hid (by rw [List.length_take, hn.out]; omega)
  have hnD : Hid ((xs.drop (8 + s)).length = s + 16 - (8 + s)) := Lib.hid (by rw [List.length_drop, hn.out])
  have j1 : (8 : Int) ≤ (c : Int) := by omega
  have j2 : (8 : Int) + (s : Int) ≤ (s : Int) + 16 := by omega
  have j3 : ¬ c = 8 + s := by omega
  obtain ⟨F, hF⟩ : ∃ F, firstB (badF true xs) 0 xs.length = F := ⟨_, rfl⟩
  cases F with
  | none =>
    have HT := Lib.hid (chk_none hsz hF)
    have hq1 : Hid (∀ k, k < 8 → (xs.take 8)[k]? = (layL 0 204 0 0)[k]?) := Lib.hid (fun k hk => by rw [cut_at hk, all204 (by omega)]; exact (bad_out' hn.out (by omega) (.inl hk)).1 (firstB_none.1 hF k (Nat.zero_le _) (by rw [hn.out]; omega)))
    have hq2 : Hid (∀ k, k < s + 16 - (8 + s) → (xs.drop (8 + s))[k]? = (layL 0 204 0 0)[k]?) := Lib.hid (fun k hk => by rw [List.getElem?_drop, all204 (by omega)]; exact (bad_out' hn.out (by omega) (.inr (by omega))).1 (firstB_none.1 hF _ (Nat.zero_le _) (by rw [hn.out]; omega)))
    clear hF hsz
    go_enter_defers Try.func13, Try.ntmps13
    go_wp2_with (first | (go_at_call 24; (with_reducible refine (laid_new 0 (by omega) 204 0 0 (by omega) _).mono ?_); rintro e w1 ⟨b, d, rfl, hdc, hb, hM, hbw⟩; rw [World.size_alloc, World.size_alloc] at hb; have HM : Hid (∀ j u, (bV (layL 0 204 0 0))[j]? = some u → w1.cell? ⟨b, 0 + j, none⟩ = some u) := Lib.hid (by obtain ⟨b', o', e, -, hc⟩ := hM.row (by rw [bV_len, hL.out]; omega); simp only [Option.some.injEq, Addr.mk.injEq] at e; obtain ⟨rfl, rfl, -⟩ := e; exact hc); have HA1 : Hid (∀ j u, (bV (xs.take 8))[j]? = some u → w1.cell? ⟨g, off + j, none⟩ = some u) := Lib.hid (fun j u hu => cell_below hbw (cell_alloc (cell_alloc (hA.out j u (by unfold bV at hu ⊢; rw [List.map_take] at hu; have := List.getElem?_take (l := xs.map (Value.int .u8)) (i := 8) (j := j); rw [this] at hu; split at hu; exact hu; cases hu))))); have HA2 : Hid (∀ j u, (bV (xs.drop (8 + s)))[j]? = some u → w1.cell? ⟨g, off + (8 + s) + j, none⟩ = some u) := Lib.hid (fun j u hu => by rw [Nat.add_assoc]; exact cell_below hbw (cell_alloc (cell_alloc (hA.out (8 + s + j) u (by unfold bV at hu ⊢; rw [List.map_drop, List.getElem?_drop] at hu; exact hu))))); have p0 := ((Blk.new w 3 #[.int .i64 0]).alloc (.cells #[.int .i64 0] 23)).below hbw; have p1 := (Blk.new2 w (.cells #[.int .i64 0] 3) 23 #[.int .i64 0]).below hbw; have y0 : w1.cell? ⟨w.heap.size, 0, none⟩ = some (.int .i64 0) := p0.cell 0; have y1 : w1.cell? ⟨w.heap.size + 1, 0, none⟩ = some (.int .i64 0) := p1.cell 0; have z0 := p0.frozen 0; have z1 := p1.frozen 0; have zw := hbw.size; rw [World.size_alloc, World.size_alloc] at zw; clear hM) | (go_at_call 25; (with_reducible refine (must_ok (xs.take 8) (layL 0 204 0 0) 8 (0 + 16) g off c b 0 d 0 _ hnT hL (by omega) (by omega) HA1 HM hq1).mono ?_); rintro e w0 ⟨rfl, hw0⟩; replace hw0 := hw0.symm; subst hw0) | (go_at_call 25; (with_reducible refine (must_ok (xs.drop (8 + s)) (layL 0 204 0 0) (s + 16 - (8 + s)) (0 + 16) g (off + (8 + s)) (c - (8 + s)) b 0 d (8 + (s : Int)) _ hnD hL (by omega) (by omega) HA2 HM hq2).mono ?_); rintro e w0 ⟨rfl, hw0⟩; replace hw0 := hw0.symm; subst hw0))
    refine leaves_cons (f := 23) (args := #[.pointer (some ⟨w.heap.size, 0, none⟩), .pointer (some ⟨w.heap.size + 1, 0, none⟩)]) (by simp) (by simp [go_sem]) ?_
    refine (catch_idle ⟨w.heap.size, 0, none⟩ ⟨w.heap.size + 1, 0, none⟩ _).mono ?_
    rintro e u' w'' ⟨rfl, rfl, rfl⟩
    refine ⟨.tuple #[.int .i64 0, .int .i64 0], ?_, by rw [HT.out.1, HT.out.2], by (repeat' (first | (with_reducible exact Below.refl _ _) | (with_reducible assumption) | (with_reducible refine Below.alloc ?_ ?_ _) | (with_reducible refine below_drewN ?_ _) | (with_reducible refine Below.drew ?_) | (with_reducible refine Below.setCell ?_ ?_ _) | (with_reducible refine below_two ?_ (by with_reducible assumption)) | go_size))⟩
    simp [results, Try.results13, go_sem, y0, y1]
  | some K =>
    have HT := Lib.hid (chk_some hsz hF)
    obtain ⟨-, hK, hKb, hKq⟩ := firstB_some.1 hF
    rw [hn.out, Nat.zero_add] at hK
    by_cases hK8 : K < 8
    · have hq1 : Hid (∀ k, k < K → (xs.take 8)[k]? = (layL 0 204 0 0)[k]?) := Lib.hid (fun k hk => by rw [cut_at (by omega), all204 (by omega)]; exact (bad_out' hn.out (by omega) (.inl (by omega))).1 (hKq k (Nat.zero_le _) hk))
      have hb' : Hid ((xs.take 8)[K]? ≠ (layL 0 204 0 0)[K]?) := Lib.hid (by rw [cut_at hK8, all204 (by omega)]; exact (bad_out hn.out hK (.inl hK8)).1 hKb)
      have hz : (0 : Int) + (K : Int) = (K : Int) := by omega
      clear hF hsz hKb hKq
      go_enter_defers Try.func13, Try.ntmps13
      go_wp2_with (first | (go_at_call 24; (with_reducible refine (laid_new 0 (by omega) 204 0 0 (by omega) _).mono ?_); rintro e w1 ⟨b, d, rfl, hdc, hb, hM, hbw⟩; rw [World.size_alloc, World.size_alloc] at hb; have HM : Hid (∀ j u, (bV (layL 0 204 0 0))[j]? = some u → w1.cell? ⟨b, 0 + j, none⟩ = some u) := Lib.hid (by obtain ⟨b', o', e, -, hc⟩ := hM.row (by rw [bV_len, hL.out]; omega); simp only [Option.some.injEq, Addr.mk.injEq] at e; obtain ⟨rfl, rfl, -⟩ := e; exact hc); have HA1 : Hid (∀ j u, (bV (xs.take 8))[j]? = some u → w1.cell? ⟨g, off + j, none⟩ = some u) := Lib.hid (fun j u hu => cell_below hbw (cell_alloc (cell_alloc (hA.out j u (by unfold bV at hu ⊢; rw [List.map_take] at hu; have := List.getElem?_take (l := xs.map (Value.int .u8)) (i := 8) (j := j); rw [this] at hu; split at hu; exact hu; cases hu))))); have HA2 : Hid (∀ j u, (bV (xs.drop (8 + s)))[j]? = some u → w1.cell? ⟨g, off + (8 + s) + j, none⟩ = some u) := Lib.hid (fun j u hu => by rw [Nat.add_assoc]; exact cell_below hbw (cell_alloc (cell_alloc (hA.out (8 + s + j) u (by unfold bV at hu ⊢; rw [List.map_drop, List.getElem?_drop] at hu; exact hu))))); have p0 := ((Blk.new w 3 #[.int .i64 0]).alloc (.cells #[.int .i64 0] 23)).below hbw; have p1 := (Blk.new2 w (.cells #[.int .i64 0] 3) 23 #[.int .i64 0]).below hbw; have y0 : w1.cell? ⟨w.heap.size, 0, none⟩ = some (.int .i64 0) := p0.cell 0; have y1 : w1.cell? ⟨w.heap.size + 1, 0, none⟩ = some (.int .i64 0) := p1.cell 0; have z0 := p0.frozen 0; have z1 := p1.frozen 0; have zw := hbw.size; rw [World.size_alloc, World.size_alloc] at zw; clear hM) | (go_at_call 25; (with_reducible refine (must_bad (xs.take 8) (layL 0 204 0 0) 8 (0 + 16) g off c b 0 d K 0 _ hnT hL (by omega) (by omega) (by omega) (by omega) HA1 HM hK8 hq1 hb' (K : Int) hz).mono ?_); rintro e w0 ⟨rfl, hw0⟩; replace hw0 := hw0.symm; subst hw0))
      refine leaves_cons (f := 23) (args := #[.pointer (some ⟨w.heap.size, 0, none⟩), .pointer (some ⟨w.heap.size + 1, 0, none⟩)]) (by simp) (by simp [go_sem]) ?_
      refine (catch_panicking ⟨w.heap.size, 0, none⟩ ⟨w.heap.size + 1, 0, none⟩ 0 0 (K : Int) [] _ y0 z0 y1 z1 (by simp)).mono ?_
      rintro e u' w'' ⟨rfl, rfl, rfl⟩
      have y2 : (w1.setCell ⟨w.heap.size, 0, none⟩ (.int .i64 (K : Int))).cell? ⟨w.heap.size + 1, 0, none⟩ = some (.int .i64 0) := (World.cell?_setCell_other _ _ _ _ (by simp)).trans y1
      simp [Leaves, settle, results, Try.results13, go_sem, y0, y2]
      exact ⟨by rw [HT.out.1, HT.out.2], by (repeat' (first | (with_reducible exact Below.refl _ _) | (with_reducible assumption) | (with_reducible refine Below.alloc ?_ ?_ _) | (with_reducible refine below_drewN ?_ _) | (with_reducible refine Below.drew ?_) | (with_reducible refine Below.setCell ?_ ?_ _) | (with_reducible refine below_two ?_ (by with_reducible assumption)) | go_size))⟩
    · have hKh : s + 8 ≤ K := by
        rcases Nat.lt_or_ge K (s + 8) with h | h
        · rw [bad_mid hn.out (by omega)] at hKb; cases hKb
        · exact h
      obtain ⟨J, rfl⟩ : ∃ J, K = 8 + s + J := ⟨K - (8 + s), by omega⟩
      have hJ : J < s + 16 - (8 + s) := by omega
      have hq1 : Hid (∀ k, k < 8 → (xs.take 8)[k]? = (layL 0 204 0 0)[k]?) := Lib.hid (fun k hk => by rw [cut_at hk, all204 (by omega)]; exact (bad_out' hn.out (by omega) (.inl hk)).1 (hKq k (Nat.zero_le _) (by omega)))
      have hq2 : Hid (∀ k, k < J → (xs.drop (8 + s))[k]? = (layL 0 204 0 0)[k]?) := Lib.hid (fun k hk => by rw [List.getElem?_drop, all204 (by omega)]; exact (bad_out' hn.out (by omega) (.inr (by omega))).1 (hKq _ (Nat.zero_le _) (by omega)))
      have hb' : Hid ((xs.drop (8 + s))[J]? ≠ (layL 0 204 0 0)[J]?) := Lib.hid (by rw [List.getElem?_drop, all204 (by omega)]; exact (bad_out hn.out hK (.inr hKh)).1 hKb)
      obtain ⟨Z, hZ⟩ : ∃ Z : Int, ((8 + s + J : Nat) : Int) = Z := ⟨_, rfl⟩
      rw [hZ] at HT
      have hz : (8 : Int) + (s : Int) + (J : Int) = Z := by omega
      clear hF hsz hKb hKq hZ
      go_enter_defers Try.func13, Try.ntmps13
      go_wp2_with (first | (go_at_call 24; (with_reducible refine (laid_new 0 (by omega) 204 0 0 (by omega) _).mono ?_); rintro e w1 ⟨b, d, rfl, hdc, hb, hM, hbw⟩; rw [World.size_alloc, World.size_alloc] at hb; have HM : Hid (∀ j u, (bV (layL 0 204 0 0))[j]? = some u → w1.cell? ⟨b, 0 + j, none⟩ = some u) := Lib.hid (by obtain ⟨b', o', e, -, hc⟩ := hM.row (by rw [bV_len, hL.out]; omega); simp only [Option.some.injEq, Addr.mk.injEq] at e; obtain ⟨rfl, rfl, -⟩ := e; exact hc); have HA1 : Hid (∀ j u, (bV (xs.take 8))[j]? = some u → w1.cell? ⟨g, off + j, none⟩ = some u) := Lib.hid (fun j u hu => cell_below hbw (cell_alloc (cell_alloc (hA.out j u (by unfold bV at hu ⊢; rw [List.map_take] at hu; have := List.getElem?_take (l := xs.map (Value.int .u8)) (i := 8) (j := j); rw [this] at hu; split at hu; exact hu; cases hu))))); have HA2 : Hid (∀ j u, (bV (xs.drop (8 + s)))[j]? = some u → w1.cell? ⟨g, off + (8 + s) + j, none⟩ = some u) := Lib.hid (fun j u hu => by rw [Nat.add_assoc]; exact cell_below hbw (cell_alloc (cell_alloc (hA.out (8 + s + j) u (by unfold bV at hu ⊢; rw [List.map_drop, List.getElem?_drop] at hu; exact hu))))); have p0 := ((Blk.new w 3 #[.int .i64 0]).alloc (.cells #[.int .i64 0] 23)).below hbw; have p1 := (Blk.new2 w (.cells #[.int .i64 0] 3) 23 #[.int .i64 0]).below hbw; have y0 : w1.cell? ⟨w.heap.size, 0, none⟩ = some (.int .i64 0) := p0.cell 0; have y1 : w1.cell? ⟨w.heap.size + 1, 0, none⟩ = some (.int .i64 0) := p1.cell 0; have z0 := p0.frozen 0; have z1 := p1.frozen 0; have zw := hbw.size; rw [World.size_alloc, World.size_alloc] at zw; clear hM) | (go_at_call 25; (with_reducible refine (must_ok (xs.take 8) (layL 0 204 0 0) 8 (0 + 16) g off c b 0 d 0 _ hnT hL (by omega) (by omega) HA1 HM hq1).mono ?_); rintro e w0 ⟨rfl, hw0⟩; replace hw0 := hw0.symm; subst hw0) | (go_at_call 25; (with_reducible refine (must_bad (xs.drop (8 + s)) (layL 0 204 0 0) (s + 16 - (8 + s)) (0 + 16) g (off + (8 + s)) (c - (8 + s)) b 0 d J (8 + (s : Int)) _ hnD hL (by omega) (by omega) (by omega) (by omega) HA2 HM hJ hq2 hb' Z hz).mono ?_); rintro e w0 ⟨rfl, hw0⟩; replace hw0 := hw0.symm; subst hw0))
      refine leaves_cons (f := 23) (args := #[.pointer (some ⟨w.heap.size, 0, none⟩), .pointer (some ⟨w.heap.size + 1, 0, none⟩)]) (by simp) (by simp [go_sem]) ?_
      refine (catch_panicking ⟨w.heap.size, 0, none⟩ ⟨w.heap.size + 1, 0, none⟩ 0 0 Z [] _ y0 z0 y1 z1 (by simp)).mono ?_
      rintro e u' w'' ⟨rfl, rfl, rfl⟩
      have y2 : (w1.setCell ⟨w.heap.size, 0, none⟩ (.int .i64 Z)).cell? ⟨w.heap.size + 1, 0, none⟩ = some (.int .i64 0) := (World.cell?_setCell_other _ _ _ _ (by simp)).trans y1
      simp [Leaves, settle, results, Try.results13, go_sem, y0, y2]
      exact ⟨by rw [HT.out.1, HT.out.2], by (repeat' (first | (with_reducible exact Below.refl _ _) | (with_reducible assumption) | (with_reducible refine Below.alloc ?_ ?_ _) | (with_reducible refine below_drewN ?_ _) | (with_reducible refine Below.drew ?_) | (with_reducible refine Below.setCell ?_ ?_ _) | (with_reducible refine below_two ?_ (by with_reducible assumption)) | go_size))⟩

theorem check_any (w : World) (A : Option Addr) (n c : Nat) (xs : List Int) (hn : Hid (xs.length = n)) (hnc : n ≤ c) (hm : n ≤ 9223372036854775807) (hA : Row w A (bV xs)) (out : Bool) : Calls Try.prog 13 #[.slice A n c, .bool out] w (Told w out xs) := by
  by_cases h : n < 17 ∨ 1040 < n
  · exact check_size w A n c xs hn hm h out
  · obtain ⟨s, rfl⟩ : ∃ s, n = s + 16 := ⟨n - 16, by omega⟩
    obtain ⟨g, off, rfl, -, hc⟩ := hA (by rw [bV_len, hn.out]; omega)
    cases out
    · exact check_in w g off s c xs hn (by omega) (by omega) (Lib.hid hc)
    · exact check_out w g off s c xs hn hnc (by omega) (by omega) (Lib.hid hc)

end Go.Proofs.Ytindgcbnpbhciaa
