/-
  What the laws' walks want; the walk of works: the chapter's examples.
-/
import Derived.Test.YtklhlhfplkmpmaaWalkE
import Derived.Test.YtklhlhfplkmpmaaEqWords
namespace Go.Proofs.Ytklhlhfplkmpmaa
open Go.RowKit

theorem Row.of_blk {w : World} {g : Nat} {t : TypeId} {cs : Array Value} (h : Blk w g t cs) {xs : List Value} (e : cs.toList = xs) : Row w (some ⟨g, 0, none⟩) xs := fun _ =>
  ⟨g, 0, rfl, h.lt, fun j u hu => by rw [Nat.zero_add, h.cell, ← Array.getElem?_toList, e]; exact hu⟩

def natI (l : List Nat) : List Int := l.map fun (n : Nat) => (n : Int)
theorem natI_ints (l : List Nat) : intsV (natI l) = natV l := by simp [intsV, natI, natV]
theorem natI_words (l : List Nat) : wordsV (natI l) = wordV l := by simp [wordsV, natI, wordV]
theorem natI_len (l : List Nat) : (natI l).length = l.length := by simp [natI]
theorem natI_inj {a b : List Nat} (h : natI a = natI b) : a = b := by
  apply List.ext_getElem?
  intro i
  have := congrArg (fun l : List Int => l[i]?) h
  simp only [natI, List.getElem?_map] at this
  cases ha : a[i]? with
  | none => rw [ha] at this; cases hb : b[i]? with
    | none => rfl
    | some y => rw [hb] at this; simp at this
  | some x => rw [ha] at this; cases hb : b[i]? with
    | none => rw [hb] at this; simp at this
    | some y => rw [hb] at this; simp at this; rw [show x = y by omega]
theorem natI_eq (a b : List Nat) : decide (natI a = natI b) = decide (a = b) := by
  by_cases h : a = b
  · rw [h]; simp
  · rw [decide_eq_false h, decide_eq_false (fun e => h (natI_inj e))]

theorem eqNats (xs ys : List Nat) (n m : Nat) (r : Bool) (hn : xs.length = n) (hm : ys.length = m) (hn' : n ≤ 9223372036854775807) (hm' : m ≤ 9223372036854775807) (hr : decide (xs = ys) = r) (A B : Option Addr) (c d : Nat) (w : World)
    (hA : Row w A (natV xs)) (hB : Row w B (natV ys)) : Calls Try.prog 17 #[.slice A n c, .slice B m d] w fun e w' => e = .returned (.bool r) ∧ Below w.heap.size w w' := by
  subst hn hm hr
  have := eqInts_any (natI xs) (natI ys) A B c d w (by rw [natI_len]; exact hn') (by rw [natI_len]; exact hm') (by rw [natI_ints]; exact hA) (by rw [natI_ints]; exact hB)
  rwa [natI_len, natI_len, natI_eq] at this
theorem eqWs (xs ys : List Nat) (n m : Nat) (r : Bool) (hn : xs.length = n) (hm : ys.length = m) (hn' : n ≤ 9223372036854775807) (hm' : m ≤ 9223372036854775807) (hr : decide (xs = ys) = r) (A B : Option Addr) (c d : Nat) (w : World)
    (hA : Row w A (wordV xs)) (hB : Row w B (wordV ys)) : Calls Try.prog 18 #[.slice A n c, .slice B m d] w fun e w' => e = .returned (.bool r) ∧ Below w.heap.size w w' := by
  subst hn hm hr
  have := eqWords_any (natI xs) (natI ys) A B c d w (by rw [natI_len]; exact hn') (by rw [natI_len]; exact hm') (by rw [natI_words]; exact hA) (by rw [natI_words]; exact hB)
  rwa [natI_len, natI_len, natI_eq] at this

theorem hide_c (n key i v e : Int) (k : Nat) (ek : (k : Int) = key) (hk : k < 18446744073709551616) (h : hideF n k i = (v, e)) (w : World) : Calls Try.prog 10 #[.int .i64 n, .int .u64 key, .int .i64 i] w fun r w' =>
    r = .returned (.tuple #[.int .u64 v, .int .i64 e]) ∧ w' = w := ek ▸ hide_at n k hk i v e h w
theorem show_c (x key i n : Int) (b : Bool) (a k : Nat) (ea : (a : Int) = x) (ek : (k : Int) = key) (ha : a < 18446744073709551616) (hk : k < 18446744073709551616) (h : showF a k i = (n, b)) (w : World) :
    Calls Try.prog 12 #[.int .u64 x, .int .u64 key, .int .i64 i] w fun e w' => e = .returned (.tuple #[.int .i64 n, .bool b]) ∧ w' = w := ea ▸ ek ▸ show_at a k ha hk i n b h w
theorem fresh_c (n key : Int) (k : Nat) (ek : (k : Int) = key) (hk : k < 18446744073709551616) (xs : List Nat) (m : Nat) (e : Int) (hm : xs.length = m) (h : freshF n k = (xs, e)) (w : World) : Calls Try.prog 19 #[.int .i64 n, .int .u64 key] w fun r w' =>
    ∃ v, r = .returned (.tuple #[v, .int .i64 e]) ∧ w'.ownsRow w.heap.size 22 1 v m (wordV xs) ∧ Below w.heap.size w w' := by
  subst ek hm
  have := fresh_any n k hk w
  rw [h] at this
  exact this
theorem refFresh_c (n key : Int) (k : Nat) (ek : (k : Int) = key) (hk : k < 18446744073709551616) (xs : List Nat) (m : Nat) (e : Int) (hm : xs.length = m) (h : freshF n k = (xs, e)) (w : World) : Calls Try.prog 20 #[.int .i64 n, .int .u64 key] w fun r w' =>
    ∃ v, r = .returned (.tuple #[v, .int .i64 e]) ∧ w'.ownsRow w.heap.size 22 1 v m (wordV xs) ∧ Below w.heap.size w w' := by
  subst ek hm
  have := refFresh_any n k hk w
  rw [h] at this
  exact this
theorem list_c (ws : List Nat) (n : Nat) (hn : ws.length = n) (key first : Int) (k : Nat) (ek : (k : Int) = key) (hk : k < 18446744073709551616) (hws : ∀ x ∈ ws, x < 18446744073709551616) (hl : n ≤ 9223372036854775807) (xs : List Nat) (m : Nat) (e : Int) (hm : xs.length = m)
    (h : listF ws k first = (xs, e)) (A : Option Addr) (c : Nat) (w : World) (hA : Row w A (wordV ws)) : Calls Try.prog 15 #[.slice A n c, .int .u64 key, .int .i64 first] w fun r w' =>
    ∃ v, r = .returned (.tuple #[v, .int .i64 e]) ∧ w'.ownsRow w.heap.size 3 1 v m (natV xs) ∧ Below w.heap.size w w' := by
  subst hn ek hm
  have := list_any ws k first A c w hk hws hl hA
  rw [h] at this
  exact this
theorem refList_c (ws : List Nat) (n : Nat) (hn : ws.length = n) (key first : Int) (k : Nat) (ek : (k : Int) = key) (hk : k < 18446744073709551616) (hws : ∀ x ∈ ws, x < 18446744073709551616) (hl : n ≤ 9223372036854775807) (xs : List Nat) (m : Nat) (e : Int) (hm : xs.length = m)
    (h : listF ws k first = (xs, e)) (A : Option Addr) (c : Nat) (w : World) (hA : Row w A (wordV ws)) : Calls Try.prog 16 #[.slice A n c, .int .u64 key, .int .i64 first] w fun r w' =>
    ∃ v, r = .returned (.tuple #[v, .int .i64 e]) ∧ w'.ownsRow w.heap.size 3 1 v m (natV xs) ∧ Below w.heap.size w w' := by
  subst hn ek hm
  have := refList_any ws k first A c w hk hws hl hA
  rw [h] at this
  exact this

set_option maxRecDepth 100000 in
set_option maxHeartbeats 1000000 in
theorem works_any (w : World) : Calls Try.prog 14 #[] w fun e w' => e = .returned (.bool true) ∧ Below w.heap.size w w' := by
  have a1 := Lib.hid (show hideF 3 0 0 = (4, 0) by decide +kernel)
  have a2 := Lib.hid (show hideF (-1) 0 0 = (0, 0) by decide +kernel)
  have a3 := Lib.hid (show hideF 0 1 1 = (2654435800, 0) by decide +kernel)
  have a4 := Lib.hid (show showF 17 0 0 = (0, false) by decide +kernel)
  have a5 := Lib.hid (show showF 16 0 0 = (15, true) by decide +kernel)
  obtain ⟨x0, x1, x2, hf, hx0, hx1, hx2⟩ : ∃ x0 x1 x2 : Nat, freshF 3 7 = ([x0, x1, x2], 0) ∧ x0 = 5 ∧ x1 = 2654435994 ∧ x2 = 5308878706 := ⟨_, _, _, by decide +kernel, rfl, rfl, rfl⟩
  have b1 : Hid (listF [x0, x1, x2] 7 0 = ([0, 1, 2], 0)) := Lib.hid (by subst hx0 hx1 hx2; decide +kernel)
  have b2 : Hid (listF [x0, x1, x2] 7 2 = ([2], 0)) := Lib.hid (by subst hx0 hx1 hx2; decide +kernel)
  have b3 : Hid (listF [x0, x1, x2] 7 (-1) = ([], 0)) := Lib.hid (by subst hx0 hx1 hx2; decide +kernel)
  have hl : Hid (∀ x ∈ [x0, x1, x2], x < 18446744073709551616) := Lib.hid (by subst hx0 hx1 hx2; decide)
  have HF := Lib.hid hf
  clear hf hx0 hx1 hx2
  go_enter Try.func14, Try.ntmps14
  go_wp2_with (first | (go_at_call 10; with_reducible refine (hide_c 3 0 0 _ _ 0 rfl (by omega) a1.out _).mono ?_; rintro e w0 ⟨rfl, hw0⟩; replace hw0 := hw0.symm; subst hw0) | (go_at_call 10; with_reducible refine (hide_c (-1) 0 0 _ _ 0 rfl (by omega) a2.out _).mono ?_; rintro e w0 ⟨rfl, hw0⟩; replace hw0 := hw0.symm; subst hw0) | (go_at_call 10; with_reducible refine (hide_c 0 1 1 _ _ 1 rfl (by omega) a3.out _).mono ?_; rintro e w0 ⟨rfl, hw0⟩; replace hw0 := hw0.symm; subst hw0) | (go_at_call 12; with_reducible refine (show_c 17 0 0 _ _ 17 0 rfl rfl (by omega) (by omega) a4.out _).mono ?_; rintro e w0 ⟨rfl, hw0⟩; replace hw0 := hw0.symm; subst hw0) | (go_at_call 12; with_reducible refine (show_c 16 0 0 _ _ 16 0 rfl rfl (by omega) (by omega) a5.out _).mono ?_; rintro e w0 ⟨rfl, hw0⟩; replace hw0 := hw0.symm; subst hw0) | (go_at_call 19; with_reducible refine (fresh_c 3 7 7 rfl (by omega) _ 3 _ rfl HF.out _).mono ?_; rintro e w1 ⟨v1, rfl, ho1, hb1⟩; obtain ⟨A1, c1, rfl, hr1⟩ := Row.slice ho1; have z1 := hb1.size) | (go_at_call 15; with_reducible refine (list_c _ 3 rfl 7 0 7 rfl (by omega) hl.out (by omega) _ 3 _ rfl b1.out _ _ _ hr1).mono ?_; rintro e w2 ⟨v2, rfl, ho2, hb2⟩; obtain ⟨A2, c2, rfl, hr2⟩ := Row.slice ho2; have hr1 := hr1.below hb2; have z2 := hb2.size) | (go_at_call 15; with_reducible refine (list_c _ 3 rfl 7 2 7 rfl (by omega) hl.out (by omega) _ 1 _ rfl b2.out _ _ _ hr1).mono ?_; rintro e w3 ⟨v3, rfl, ho3, hb3⟩; obtain ⟨A3, c3, rfl, hr3⟩ := Row.slice ho3; have hr1 := hr1.below hb3; have hr2 := hr2.below hb3; have z3 := hb3.size) | (go_at_call 15; with_reducible refine (list_c _ 3 rfl 7 (-1) 7 rfl (by omega) hl.out (by omega) _ 0 _ rfl b3.out _ _ _ hr1).mono ?_; rintro e w4 ⟨v4, rfl, ho4, hb4⟩; obtain ⟨A4, c4, rfl, hr4⟩ := Row.slice ho4; have hr2 := (hr2.below hb4).alloc (.cells #[.int .i64 0, .int .i64 1, .int .i64 2] 3); have hr3 := hr3.below hb4; have z4 := hb4.size) | (go_at_call 17; with_reducible refine (eqNats [0, 1, 2] [0, 1, 2] 3 3 true rfl rfl (by omega) (by omega) rfl _ _ _ _ _ hr2 (Row.of_blk (Blk.new w4 3 _) rfl)).mono ?_; rintro e w5 ⟨rfl, hb5⟩; have hr3 := ((hr3.alloc _).below hb5).alloc (.cells #[.int .i64 2] 3); have z5 := hb5.size; rw [World.size_alloc] at z5) | (go_at_call 17; with_reducible refine (eqNats [2] [2] 1 1 true rfl rfl (by omega) (by omega) rfl _ _ _ _ _ hr3 (Row.of_blk (Blk.new w5 3 _) rfl)).mono ?_; rintro e w6 ⟨rfl, hb6⟩; have z6 := hb6.size; rw [World.size_alloc] at z6))
  go_ret
  exact ⟨rfl, by (repeat' (first | (with_reducible exact Below.refl _ _) | (with_reducible assumption) | (with_reducible refine Below.alloc ?_ ?_ _) | (with_reducible refine below_drewN ?_ _) | (with_reducible refine Below.drew ?_) | (with_reducible refine Below.setCell ?_ ?_ _) | (with_reducible refine below_two ?_ (by with_reducible assumption)) | go_size))⟩

end Go.Proofs.Ytklhlhfplkmpmaa
