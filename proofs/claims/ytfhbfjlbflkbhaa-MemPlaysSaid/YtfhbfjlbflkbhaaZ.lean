/-
  The contracts at any place, what comes out under the caller's own names; Words.
-/
import Derived.Test.YtfhbfjlbflkbhaaNil
import Derived.Test.YtfhbfjlbflkbhaaReads
import Derived.Test.YtfhbfjlbflkbhaaOpenRow
import Derived.WalkKit
import Derived.Deep.DeepMust
import Derived.WalkSpells
import Derived.WalkLawsBesides
import Derived.Handy
import Derived.Lib.Hide
import Derived.Deep.QuietTactic
import Derived.BigQuiet
namespace Go.Proofs.Ytfhbfjlbflkbhaa
open Go.RowKit

theorem load_z (w : World) (b g : Nat) (ws : List Nat) (cnt n : Nat) (hM : MemAt 52 w b g ws cnt) (hn : Hid (ws.length = n)) (hn' : n ≤ 4096) (hc : cnt ≤ 1000000) (i : Int) (x r : Int) (cnt' : Nat) (hx : (ldA ws i : Int) = x) (hr : erA n 1 i = r) (hk : cnt + cnA n 1 i = cnt') :
    Calls Try.prog 12 #[.pointer (some ⟨b, 0, none⟩), .int .i64 i] w fun e w' =>
      e = .returned (.tuple #[.int .u64 x, .int .i64 r]) ∧ MemAt 52 w' b g ws cnt' ∧ Two b g w w' := by
  subst hx hr hk
  exact load_a w b g ws cnt n hM hn hn' hc i 

theorem store_z (w : World) (b g : Nat) (ws : List Nat) (cnt n : Nat) (hM : MemAt 52 w b g ws cnt) (hn : Hid (ws.length = n)) (hn' : n ≤ 4096) (hc : cnt ≤ 1000000) (i : Int) (v : Nat) (zv : Int) (ev : (v : Int) = zv) (ws' : List Nat) (r : Int) (cnt' : Nat) (hw : stA ws i v = ws') (hr : erA n 1 i = r) (hk : cnt + cnA n 1 i = cnt') :
    Calls Try.prog 13 #[.pointer (some ⟨b, 0, none⟩), .int .i64 i, .int .u64 zv] w fun e w' =>
      e = .returned (.int .i64 r) ∧ MemAt 52 w' b g ws' cnt' ∧ Two b g w w' := by
  subst hw hr hk ev
  exact store_a w b g ws cnt n hM hn hn' hc i v

theorem add_z (w : World) (b g : Nat) (ws : List Nat) (cnt n : Nat) (hM : MemAt 52 w b g ws cnt) (hn : Hid (ws.length = n)) (hn' : n ≤ 4096) (hc : cnt ≤ 1000000) (i : Int) (v : Nat) (zv : Int) (ev : (v : Int) = zv) (ws' : List Nat) (x r : Int) (cnt' : Nat) (hw : adA ws i v = ws') (hx : (ldA ws i : Int) = x) (hr : erA n 1 i = r) (hk : cnt + cnA n 1 i = cnt') :
    Calls Try.prog 11 #[.pointer (some ⟨b, 0, none⟩), .int .i64 i, .int .u64 zv] w fun e w' =>
      e = .returned (.tuple #[.int .u64 x, .int .i64 r]) ∧ MemAt 52 w' b g ws' cnt' ∧ Two b g w w' := by
  subst hw hx hr hk ev
  exact add_a w b g ws cnt n hM hn hn' hc i v

theorem cas_z (w : World) (b g : Nat) (ws : List Nat) (cnt n : Nat) (hM : MemAt 52 w b g ws cnt) (hn : Hid (ws.length = n)) (hn' : n ≤ 4096) (hc : cnt ≤ 1000000) (i : Int) (o v : Nat) (zo zv : Int) (eo : (o : Int) = zo) (ev : (v : Int) = zv) (ws' : List Nat) (x : Bool) (r : Int) (cnt' : Nat) (hw : cwA ws i o v = ws') (hx : csA ws i o = x) (hr : erA n 1 i = r) (hk : cnt + cnA n 1 i = cnt') :
    Calls Try.prog 15 #[.pointer (some ⟨b, 0, none⟩), .int .i64 i, .int .u64 zo, .int .u64 zv] w fun e w' =>
      e = .returned (.tuple #[.bool x, .int .i64 r]) ∧ MemAt 52 w' b g ws' cnt' ∧ Two b g w w' := by
  subst hw hx hr hk eo ev
  exact cas_a w b g ws cnt n hM hn hn' hc i o v

theorem cas2_z (w : World) (b g : Nat) (ws : List Nat) (cnt n : Nat) (hM : MemAt 52 w b g ws cnt) (hn : Hid (ws.length = n)) (hn' : n ≤ 4096) (hc : cnt ≤ 1000000) (i : Int) (o s v y : Nat) (zo zs zv zy : Int) (eo : (o : Int) = zo) (es : (s : Int) = zs) (ev : (v : Int) = zv) (ey : (y : Int) = zy) (ws' : List Nat) (x : Bool) (r : Int) (cnt' : Nat) (hw : dwA ws i o s v y = ws') (hx : dsA ws i o s = x) (hr : erA n 2 i = r) (hk : cnt + cnA n 2 i = cnt') :
    Calls Try.prog 14 #[.pointer (some ⟨b, 0, none⟩), .int .i64 i, .int .u64 zo, .int .u64 zs, .int .u64 zv, .int .u64 zy] w fun e w' =>
      e = .returned (.tuple #[.bool x, .int .i64 r]) ∧ MemAt 52 w' b g ws' cnt' ∧ Two b g w w' := by
  subst hw hx hr hk eo es ev ey
  exact cas2_a w b g ws cnt n hM hn hn' hc i o s v y

theorem rload_z (w : World) (b g : Nat) (ws : List Nat) (cnt n : Nat) (hM : MemAt 58 w b g ws cnt) (hn : Hid (ws.length = n)) (hn' : n ≤ 4096) (hc : cnt ≤ 1000000) (i : Int) (x r : Int) (cnt' : Nat) (hx : (ldA ws i : Int) = x) (hr : erA n 1 i = r) (hk : cnt + cnA n 1 i = cnt') :
    Calls Try.prog 30 #[.pointer (some ⟨b, 0, none⟩), .int .i64 i] w fun e w' =>
      e = .returned (.tuple #[.int .u64 x, .int .i64 r]) ∧ MemAt 58 w' b g ws cnt' ∧ Two b g w w' := by
  subst hx hr hk
  exact rload_a w b g ws cnt n hM hn hn' hc i 

theorem rstore_z (w : World) (b g : Nat) (ws : List Nat) (cnt n : Nat) (hM : MemAt 58 w b g ws cnt) (hn : Hid (ws.length = n)) (hn' : n ≤ 4096) (hc : cnt ≤ 1000000) (i : Int) (v : Nat) (zv : Int) (ev : (v : Int) = zv) (ws' : List Nat) (r : Int) (cnt' : Nat) (hw : stA ws i v = ws') (hr : erA n 1 i = r) (hk : cnt + cnA n 1 i = cnt') :
    Calls Try.prog 31 #[.pointer (some ⟨b, 0, none⟩), .int .i64 i, .int .u64 zv] w fun e w' =>
      e = .returned (.int .i64 r) ∧ MemAt 58 w' b g ws' cnt' ∧ Two b g w w' := by
  subst hw hr hk ev
  exact rstore_a w b g ws cnt n hM hn hn' hc i v

theorem radd_z (w : World) (b g : Nat) (ws : List Nat) (cnt n : Nat) (hM : MemAt 58 w b g ws cnt) (hn : Hid (ws.length = n)) (hn' : n ≤ 4096) (hc : cnt ≤ 1000000) (i : Int) (v : Nat) (zv : Int) (ev : (v : Int) = zv) (ws' : List Nat) (x r : Int) (cnt' : Nat) (hw : adA ws i v = ws') (hx : (ldA ws i : Int) = x) (hr : erA n 1 i = r) (hk : cnt + cnA n 1 i = cnt') :
    Calls Try.prog 34 #[.pointer (some ⟨b, 0, none⟩), .int .i64 i, .int .u64 zv] w fun e w' =>
      e = .returned (.tuple #[.int .u64 x, .int .i64 r]) ∧ MemAt 58 w' b g ws' cnt' ∧ Two b g w w' := by
  subst hw hx hr hk ev
  exact radd_a w b g ws cnt n hM hn hn' hc i v

theorem rcas_z (w : World) (b g : Nat) (ws : List Nat) (cnt n : Nat) (hM : MemAt 58 w b g ws cnt) (hn : Hid (ws.length = n)) (hn' : n ≤ 4096) (hc : cnt ≤ 1000000) (i : Int) (o v : Nat) (zo zv : Int) (eo : (o : Int) = zo) (ev : (v : Int) = zv) (ws' : List Nat) (x : Bool) (r : Int) (cnt' : Nat) (hw : cwA ws i o v = ws') (hx : csA ws i o = x) (hr : erA n 1 i = r) (hk : cnt + cnA n 1 i = cnt') :
    Calls Try.prog 32 #[.pointer (some ⟨b, 0, none⟩), .int .i64 i, .int .u64 zo, .int .u64 zv] w fun e w' =>
      e = .returned (.tuple #[.bool x, .int .i64 r]) ∧ MemAt 58 w' b g ws' cnt' ∧ Two b g w w' := by
  subst hw hx hr hk eo ev
  exact rcas_a w b g ws cnt n hM hn hn' hc i o v

theorem rcas2_z (w : World) (b g : Nat) (ws : List Nat) (cnt n : Nat) (hM : MemAt 58 w b g ws cnt) (hn : Hid (ws.length = n)) (hn' : n ≤ 4096) (hc : cnt ≤ 1000000) (i : Int) (o s v y : Nat) (zo zs zv zy : Int) (eo : (o : Int) = zo) (es : (s : Int) = zs) (ev : (v : Int) = zv) (ey : (y : Int) = zy) (ws' : List Nat) (x : Bool) (r : Int) (cnt' : Nat) (hw : dwA ws i o s v y = ws') (hx : dsA ws i o s = x) (hr : erA n 2 i = r) (hk : cnt + cnA n 2 i = cnt') :
    Calls Try.prog 33 #[.pointer (some ⟨b, 0, none⟩), .int .i64 i, .int .u64 zo, .int .u64 zs, .int .u64 zv, .int .u64 zy] w fun e w' =>
      e = .returned (.tuple #[.bool x, .int .i64 r]) ∧ MemAt 58 w' b g ws' cnt' ∧ Two b g w w' := by
  subst hw hx hr hk eo es ev ey
  exact rcas2_a w b g ws cnt n hM hn hn' hc i o s v y


theorem MemAt.words {T : TypeId} {w : World} {b g : Nat} {ws : List Nat} {cnt : Nat} (h : MemAt T w b g ws cnt) : Row w (some ⟨g, 0, none⟩) (wordV ws) := fun _ =>
  ⟨g, 0, rfl, h.row.lt, fun j u hu => by rw [Nat.zero_add, h.row.cell, List.getElem?_toArray]; exact hu⟩
theorem below_grown {B : Nat} {a w w' : World} {row : Option Nat} (h : Below B a w) (hg : w.grownBy w' row) (hB : B ≤ w.heap.size) (hr : ∀ g, row = some g → B ≤ g) : Below B a w' :=
  h.trans ⟨hg.os, hg.tape, hg.output, hg.size, fun k hk => hg.block k (by omega) (fun e => by have := hr k e.symm; omega)⟩
theorem words_one (ws : List Nat) : ∀ u ∈ wordV ws, u.oneCell' = true := fun u hu => by obtain ⟨x, -, rfl⟩ := List.mem_map.1 hu; rfl

theorem clone_any (ws : List Nat) (b c n : Nat) (w : World) (hn : Hid (ws.length = n)) (hn' : n ≤ 4096) (hA : Row w (some ⟨b, 0, none⟩) (wordV ws)) :
    Calls Try.prog 35 #[.slice (some ⟨b, 0, none⟩) n c] w fun e w' => ∃ v, e = .returned v ∧ w'.ownsRow w.heap.size 29 1 v n (wordV ws) ∧ Below w.heap.size w w' := by
  obtain ⟨i0, hi, hz0, hz1, hz2⟩ := info_parts Try.info29
  have I0 := Lib.hid hi
  have I1 := Lib.hid hz0
  have I2 := Lib.hid hz1
  have I3 := Lib.hid hz2
  have HR := Lib.hid (hA.reads (n := n) (by simpa using hn.out))
  have hsn : ∀ (n c : Nat) (w : World), (binOp .eql 22 (.slice (some ⟨b, 0, none⟩) n c) (.slice none 0 0)).run Try.prog w = .ok (.bool false) w := fun n c w => Go.Lib.run_eql_slice_nil w 22 29 (some ⟨b, 0, none⟩) n c 0 0 (by rfl)
  clear hi hz0 hz1 hz2
  go_enter Try.func35, Try.ntmps35
  go_wp2_with (first | (at_builtin; refine wpList_append_any _ rfl _ _ 22 rfl w.heap.size 29 i0 (.int .u64 0) 1 8 Try.underlying22 I0.out I1.out I2.out I3.out rfl (by decide) (.slice (some ⟨w.heap.size, 0, none⟩) 0 0) 0 [] rfl (World.ownsRow_made w #[] 0 (Nat.le_refl _) (Nat.zero_le _) rfl) w.heap.size _ n _ (wordV ws) rfl (HR.out.alloc (Nat.le_refl _) _) (words_one ws) (by unfold maxLen; omega) (by omega) (by simp) ?_; intro v1 w1 ho1 hg1 hq1; clear hq1; simp only [Nat.zero_add, List.nil_append] at ho1))
  go_ret
  exact ⟨_, rfl, ho1, below_grown ((Below.refl w.heap.size w).alloc (Nat.le_refl _) _) hg1 (by simp) (fun g hg => by simp [Value.ownBlock] at hg; omega)⟩

theorem words_any (w : World) (b g : Nat) (ws : List Nat) (cnt n : Nat) (hM : MemAt 52 w b g ws cnt) (hn : Hid (ws.length = n)) (hn' : n ≤ 4096) :
    Calls Try.prog 22 #[.pointer (some ⟨b, 0, none⟩)] w fun e w' => ∃ v, e = .returned v ∧ w'.ownsRow w.heap.size 29 1 v n (wordV ws) ∧ Below w.heap.size w w' := by
  have hH := hM.head
  rw [hn.out] at hH
  have cb := hH.cell
  have HW := Lib.hid hM.words
  go_enter Try.func22, Try.ntmps22
  go_wp2_with (first | (go_at_call 35; with_reducible refine (clone_any ws g n n _ hn hn' HW.out).mono ?_; rintro e w1 ⟨v1, rfl, ho1, hb1⟩))
  go_ret
  exact ⟨_, rfl, ho1, hb1⟩

theorem rwords_any (w : World) (b g : Nat) (ws : List Nat) (cnt n : Nat) (hM : MemAt 58 w b g ws cnt) (hn : Hid (ws.length = n)) (hn' : n ≤ 4096) :
    Calls Try.prog 23 #[.pointer (some ⟨b, 0, none⟩)] w fun e w' => ∃ v, e = .returned v ∧ w'.ownsRow w.heap.size 29 1 v n (wordV ws) ∧ Below w.heap.size w w' := by
  obtain ⟨i0, hi, hz0, hz1, hz2⟩ := info_parts Try.info29
  have I0 := Lib.hid hi
  have I1 := Lib.hid hz0
  have I2 := Lib.hid hz1
  have I3 := Lib.hid hz2
  have hH := hM.head
  rw [hn.out] at hH
  have cb := hH.cell
  have HR := Lib.hid (hM.words.reads (n := n) (by simpa using hn.out))
  clear hi hz0 hz1 hz2
  go_enter Try.func23, Try.ntmps23
  go_wp2_with (first | (at_builtin; refine wpList_append_any _ rfl _ _ 22 rfl w.heap.size 29 i0 (.int .u64 0) 1 8 Try.underlying22 I0.out I1.out I2.out I3.out rfl (by decide) _ _ _ rfl (World.ownsRow_nil _ _ _ _) w.heap.size _ n _ (wordV ws) rfl HR.out (words_one ws) (by unfold maxLen; omega) (by omega) (Nat.le_refl _) ?_; intro v1 w1 ho1 hg1 hq1; clear hq1; have hb1 := below_grown (Below.refl w.heap.size w) hg1 (Nat.le_refl _) (fun g hg => by cases hg); simp only [Nat.zero_add, List.nil_append] at ho1))
  go_ret
  exact ⟨_, rfl, ho1, hb1⟩

end Go.Proofs.Ytfhbfjlbflkbhaa
