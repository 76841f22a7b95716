/-
  The reference's methods.
-/
import Derived.Test.YtfhbfjlbflkbhaaWalkC
import Derived.WalkKit
import Derived.Deep.DeepMust
import Derived.WalkSpells
import Derived.WalkLawsBesides
import Derived.Handy
import Derived.Lib.Hide
import Derived.Deep.QuietTactic
import Derived.BigQuiet
namespace Go.Proofs.Ytfhbfjlbflkbhaa
open Go.RowKit

theorem rload (w : World) (b g : Nat) (ws : List Nat) (cnt n : Nat) (hM : MemAt 58 w b g ws cnt) (hn : Hid (ws.length = n)) (hn' : n ≤ 4096) (hc : cnt ≤ 1000000) (i x : Nat) (hi : i < n) (hx : Hid (ws[i]? = some x)) :
    Calls Try.prog 30 #[.pointer (some ⟨b, 0, none⟩), .int .i64 (i : Int)] w fun e w' =>
      e = .returned (.tuple #[.int .u64 (x : Int), .int .i64 0]) ∧ MemAt 58 w' b g ws (cnt + 1) ∧ Two b g w w' := by
  have hN := hn'
  have hC := hc
  have hH := hM.head
  rw [hn.out] at hH
  have nb := hH.lt
  have ng := hM.row.lt
  have cb := hH.cell
  have db := hH.frozen
  have dg := hM.row.frozen
  have ne := hM.ne
  have cg := hM.cell hx.out
  have i0 : (0 : Int) ≤ (i : Int) := by omega
  have i1 : (i : Int) < (n : Int) := by omega
  go_enter Try.func30, Try.ntmps30
  go_wp2_with (first | go_in)
  go_ret2
  exact ⟨rfl, hM.more (cnt + 1), (Two.refl _ _ _).setB _ _⟩

theorem rload_err (w : World) (b g : Nat) (ws : List Nat) (cnt n : Nat) (hM : MemAt 58 w b g ws cnt) (hn : Hid (ws.length = n)) (hn' : n ≤ 4096) (i : Int) (hi : i < 0 ∨ (n : Int) ≤ i) :
    Calls Try.prog 30 #[.pointer (some ⟨b, 0, none⟩), .int .i64 i] w fun e w' =>
      e = .returned (.tuple #[.int .u64 0, .int .i64 9]) ∧ MemAt 58 w' b g ws cnt ∧ Two b g w w' := by
  have hN := hn'
  have hH := hM.head
  rw [hn.out] at hH
  have nb := hH.lt
  have cb := hH.cell
  go_enter Try.func30, Try.ntmps30
  go_wp2_with (first | go_in)
  all_goals go_ret2
  all_goals exact ⟨rfl, hM, Two.refl _ _ _⟩

theorem rstore (w : World) (b g : Nat) (ws : List Nat) (cnt n : Nat) (hM : MemAt 58 w b g ws cnt) (hn : Hid (ws.length = n)) (hn' : n ≤ 4096) (hc : cnt ≤ 1000000) (i x : Nat) (hi : i < n) (hx : Hid (ws[i]? = some x)) (v : Nat) :
    Calls Try.prog 31 #[.pointer (some ⟨b, 0, none⟩), .int .i64 (i : Int), .int .u64 (v : Int)] w fun e w' =>
      e = .returned (.int .i64 0) ∧ MemAt 58 w' b g (ws.set i v) (cnt + 1) ∧ Two b g w w' := by
  have hN := hn'
  have hC := hc
  have hH := hM.head
  rw [hn.out] at hH
  have nb := hH.lt
  have ng := hM.row.lt
  have cb := hH.cell
  have db := hH.frozen
  have dg := hM.row.frozen
  have ne := hM.ne
  have cg := hM.cell hx.out
  have i0 : (0 : Int) ≤ (i : Int) := by omega
  have i1 : (i : Int) < (n : Int) := by omega
  go_enter Try.func31, Try.ntmps31
  go_wp2_with (first | go_in)
  go_ret
  exact ⟨rfl, (hM.more (cnt + 1)).put i v, ((Two.refl _ _ _).setB _ _).setG _ _⟩

theorem rstore_err (w : World) (b g : Nat) (ws : List Nat) (cnt n : Nat) (hM : MemAt 58 w b g ws cnt) (hn : Hid (ws.length = n)) (hn' : n ≤ 4096) (i : Int) (hi : i < 0 ∨ (n : Int) ≤ i) (v : Nat) :
    Calls Try.prog 31 #[.pointer (some ⟨b, 0, none⟩), .int .i64 i, .int .u64 (v : Int)] w fun e w' =>
      e = .returned (.int .i64 9) ∧ MemAt 58 w' b g ws cnt ∧ Two b g w w' := by
  have hN := hn'
  have hH := hM.head
  rw [hn.out] at hH
  have nb := hH.lt
  have cb := hH.cell
  go_enter Try.func31, Try.ntmps31
  go_wp2_with (first | go_in)
  all_goals go_ret
  all_goals exact ⟨rfl, hM, Two.refl _ _ _⟩

theorem radd (w : World) (b g : Nat) (ws : List Nat) (cnt n : Nat) (hM : MemAt 58 w b g ws cnt) (hn : Hid (ws.length = n)) (hn' : n ≤ 4096) (hc : cnt ≤ 1000000) (i x : Nat) (hi : i < n) (hx : Hid (ws[i]? = some x)) (v : Nat) :
    Calls Try.prog 34 #[.pointer (some ⟨b, 0, none⟩), .int .i64 (i : Int), .int .u64 (v : Int)] w fun e w' =>
      e = .returned (.tuple #[.int .u64 (x : Int), .int .i64 0]) ∧ MemAt 58 w' b g (ws.set i ((x + v) % 18446744073709551616)) (cnt + 1) ∧ Two b g w w' := by
  have hN := hn'
  have hC := hc
  have hH := hM.head
  rw [hn.out] at hH
  have nb := hH.lt
  have ng := hM.row.lt
  have cb := hH.cell
  have db := hH.frozen
  have dg := hM.row.frozen
  have ne := hM.ne
  have hy : Hid (IntKind.u64.wrap ((x : Int) + (v : Int)) = _) := wrap_add x v
  generalize (x + v) % 18446744073709551616 = y at hy ⊢
  have hy2 := hy.out
  have cg := hM.cell hx.out
  have i0 : (0 : Int) ≤ (i : Int) := by omega
  have i1 : (i : Int) < (n : Int) := by omega
  go_enter Try.func34, Try.ntmps34
  go_wp2_with (first | go_in)
  go_ret2
  exact ⟨rfl, (hM.more (cnt + 1)).put i y, ((Two.refl _ _ _).setB _ _).setG _ _⟩

theorem radd_err (w : World) (b g : Nat) (ws : List Nat) (cnt n : Nat) (hM : MemAt 58 w b g ws cnt) (hn : Hid (ws.length = n)) (hn' : n ≤ 4096) (i : Int) (hi : i < 0 ∨ (n : Int) ≤ i) (v : Nat) :
    Calls Try.prog 34 #[.pointer (some ⟨b, 0, none⟩), .int .i64 i, .int .u64 (v : Int)] w fun e w' =>
      e = .returned (.tuple #[.int .u64 0, .int .i64 9]) ∧ MemAt 58 w' b g ws cnt ∧ Two b g w w' := by
  have hN := hn'
  have hH := hM.head
  rw [hn.out] at hH
  have nb := hH.lt
  have cb := hH.cell
  go_enter Try.func34, Try.ntmps34
  go_wp2_with (first | go_in)
  all_goals go_ret2
  all_goals exact ⟨rfl, hM, Two.refl _ _ _⟩

theorem rcas_yes (w : World) (b g : Nat) (ws : List Nat) (cnt n : Nat) (hM : MemAt 58 w b g ws cnt) (hn : Hid (ws.length = n)) (hn' : n ≤ 4096) (hc : cnt ≤ 1000000) (i x : Nat) (hi : i < n) (hx : Hid (ws[i]? = some x)) (o v : Nat) (h : (x : Int) = (o : Int)) :
    Calls Try.prog 32 #[.pointer (some ⟨b, 0, none⟩), .int .i64 (i : Int), .int .u64 (o : Int), .int .u64 (v : Int)] w fun e w' =>
      e = .returned (.tuple #[.bool true, .int .i64 0]) ∧ MemAt 58 w' b g (ws.set i v) (cnt + 1) ∧ Two b g w w' := by
  have hN := hn'
  have hC := hc
  have hH := hM.head
  rw [hn.out] at hH
  have nb := hH.lt
  have ng := hM.row.lt
  have cb := hH.cell
  have db := hH.frozen
  have dg := hM.row.frozen
  have ne := hM.ne
  have cg := hM.cell hx.out
  have i0 : (0 : Int) ≤ (i : Int) := by omega
  have i1 : (i : Int) < (n : Int) := by omega
  go_enter Try.func32, Try.ntmps32
  go_wp2_with (first | go_in)
  go_ret2
  exact ⟨rfl, (hM.more (cnt + 1)).put i v, ((Two.refl _ _ _).setB _ _).setG _ _⟩

theorem rcas_no (w : World) (b g : Nat) (ws : List Nat) (cnt n : Nat) (hM : MemAt 58 w b g ws cnt) (hn : Hid (ws.length = n)) (hn' : n ≤ 4096) (hc : cnt ≤ 1000000) (i x : Nat) (hi : i < n) (hx : Hid (ws[i]? = some x)) (o v : Nat) (h : (x : Int) ≠ (o : Int)) :
    Calls Try.prog 32 #[.pointer (some ⟨b, 0, none⟩), .int .i64 (i : Int), .int .u64 (o : Int), .int .u64 (v : Int)] w fun e w' =>
      e = .returned (.tuple #[.bool false, .int .i64 0]) ∧ MemAt 58 w' b g ws (cnt + 1) ∧ Two b g w w' := by
  have hN := hn'
  have hC := hc
  have hH := hM.head
  rw [hn.out] at hH
  have nb := hH.lt
  have ng := hM.row.lt
  have cb := hH.cell
  have db := hH.frozen
  have dg := hM.row.frozen
  have ne := hM.ne
  have cg := hM.cell hx.out
  have i0 : (0 : Int) ≤ (i : Int) := by omega
  have i1 : (i : Int) < (n : Int) := by omega
  go_enter Try.func32, Try.ntmps32
  go_wp2_with (first | go_in)
  go_ret2
  exact ⟨rfl, hM.more (cnt + 1), (Two.refl _ _ _).setB _ _⟩

theorem rcas_err (w : World) (b g : Nat) (ws : List Nat) (cnt n : Nat) (hM : MemAt 58 w b g ws cnt) (hn : Hid (ws.length = n)) (hn' : n ≤ 4096) (i : Int) (hi : i < 0 ∨ (n : Int) ≤ i) (o v : Nat) :
    Calls Try.prog 32 #[.pointer (some ⟨b, 0, none⟩), .int .i64 i, .int .u64 (o : Int), .int .u64 (v : Int)] w fun e w' =>
      e = .returned (.tuple #[.bool false, .int .i64 9]) ∧ MemAt 58 w' b g ws cnt ∧ Two b g w w' := by
  have hN := hn'
  have hH := hM.head
  rw [hn.out] at hH
  have nb := hH.lt
  have cb := hH.cell
  go_enter Try.func32, Try.ntmps32
  go_wp2_with (first | go_in)
  all_goals go_ret2
  all_goals exact ⟨rfl, hM, Two.refl _ _ _⟩

set_option maxHeartbeats 2000000 in
theorem rcas2_yes (w : World) (b g : Nat) (ws : List Nat) (cnt n : Nat) (hM : MemAt 58 w b g ws cnt) (hn : Hid (ws.length = n)) (hn' : n ≤ 4096) (hc : cnt ≤ 1000000) (i x y : Nat) (hi : i + 1 < n) (hx : Hid (ws[i]? = some x)) (hy : Hid (ws[i + 1]? = some y)) (o s v v2 : Nat) (h : (x : Int) = (o : Int)) (h2 : (y : Int) = (s : Int)) :
    Calls Try.prog 33 #[.pointer (some ⟨b, 0, none⟩), .int .i64 (i : Int), .int .u64 (o : Int), .int .u64 (s : Int), .int .u64 (v : Int), .int .u64 (v2 : Int)] w fun e w' =>
      e = .returned (.tuple #[.bool true, .int .i64 0]) ∧ MemAt 58 w' b g ((ws.set i v).set (i + 1) v2) (cnt + 1) ∧ Two b g w w' := by
  have hN := hn'
  have hC := hc
  have hH := hM.head
  rw [hn.out] at hH
  have nb := hH.lt
  have ng := hM.row.lt
  have cb := hH.cell
  have db := hH.frozen
  have dg := hM.row.frozen
  have ne := hM.ne
  have cg := hM.cell hx.out
  have cg2 := hM.cell hy.out
  have i0 : (0 : Int) ≤ (i : Int) := by omega
  have i1 : (i : Int) < (n : Int) := by omega
  have i2 : (i : Int) + 1 < (n : Int) := by omega
  go_enter Try.func33, Try.ntmps33
  go_wp2_with (first | go_in)
  go_ret2
  exact ⟨rfl, ((hM.more (cnt + 1)).put i v).put (i + 1) v2, (((Two.refl _ _ _).setB _ _).setG _ _).setG _ _⟩

set_option maxHeartbeats 2000000 in
theorem rcas2_no1 (w : World) (b g : Nat) (ws : List Nat) (cnt n : Nat) (hM : MemAt 58 w b g ws cnt) (hn : Hid (ws.length = n)) (hn' : n ≤ 4096) (hc : cnt ≤ 1000000) (i x y : Nat) (hi : i + 1 < n) (hx : Hid (ws[i]? = some x)) (hy : Hid (ws[i + 1]? = some y)) (o s v v2 : Nat) (h : (x : Int) ≠ (o : Int)) :
    Calls Try.prog 33 #[.pointer (some ⟨b, 0, none⟩), .int .i64 (i : Int), .int .u64 (o : Int), .int .u64 (s : Int), .int .u64 (v : Int), .int .u64 (v2 : Int)] w fun e w' =>
      e = .returned (.tuple #[.bool false, .int .i64 0]) ∧ MemAt 58 w' b g ws (cnt + 1) ∧ Two b g w w' := by
  have hN := hn'
  have hC := hc
  have hH := hM.head
  rw [hn.out] at hH
  have nb := hH.lt
  have ng := hM.row.lt
  have cb := hH.cell
  have db := hH.frozen
  have dg := hM.row.frozen
  have ne := hM.ne
  have cg := hM.cell hx.out
  have cg2 := hM.cell hy.out
  have i0 : (0 : Int) ≤ (i : Int) := by omega
  have i1 : (i : Int) < (n : Int) := by omega
  have i2 : (i : Int) + 1 < (n : Int) := by omega
  go_enter Try.func33, Try.ntmps33
  go_wp2_with (first | go_in)
  go_ret2
  exact ⟨rfl, hM.more (cnt + 1), (Two.refl _ _ _).setB _ _⟩

set_option maxHeartbeats 2000000 in
theorem rcas2_no2 (w : World) (b g : Nat) (ws : List Nat) (cnt n : Nat) (hM : MemAt 58 w b g ws cnt) (hn : Hid (ws.length = n)) (hn' : n ≤ 4096) (hc : cnt ≤ 1000000) (i x y : Nat) (hi : i + 1 < n) (hx : Hid (ws[i]? = some x)) (hy : Hid (ws[i + 1]? = some y)) (o s v v2 : Nat) (h : (x : Int) = (o : Int)) (h2 : (y : Int) ≠ (s : Int)) :
    Calls Try.prog 33 #[.pointer (some ⟨b, 0, none⟩), .int .i64 (i : Int), .int .u64 (o : Int), .int .u64 (s : Int), .int .u64 (v : Int), .int .u64 (v2 : Int)] w fun e w' =>
      e = .returned (.tuple #[.bool false, .int .i64 0]) ∧ MemAt 58 w' b g ws (cnt + 1) ∧ Two b g w w' := by
  have hN := hn'
  have hC := hc
  have hH := hM.head
  rw [hn.out] at hH
  have nb := hH.lt
  have ng := hM.row.lt
  have cb := hH.cell
  have db := hH.frozen
  have dg := hM.row.frozen
  have ne := hM.ne
  have cg := hM.cell hx.out
  have cg2 := hM.cell hy.out
  have i0 : (0 : Int) ≤ (i : Int) := by omega
  have i1 : (i : Int) < (n : Int) := by omega
  have i2 : (i : Int) + 1 < (n : Int) := by omega
  go_enter Try.func33, Try.ntmps33
  go_wp2_with (first | go_in)
  go_ret2
  exact ⟨rfl, hM.more (cnt + 1), (Two.refl _ _ _).setB _ _⟩

set_option maxHeartbeats 2000000 in
theorem rcas2_err (w : World) (b g : Nat) (ws : List Nat) (cnt n : Nat) (hM : MemAt 58 w b g ws cnt) (hn : Hid (ws.length = n)) (hn' : n ≤ 4096) (i : Int) (hi : i < 0 ∨ (n : Int) ≤ i + 1) (o s v v2 : Nat) :
    Calls Try.prog 33 #[.pointer (some ⟨b, 0, none⟩), .int .i64 i, .int .u64 (o : Int), .int .u64 (s : Int), .int .u64 (v : Int), .int .u64 (v2 : Int)] w fun e w' =>
      e = .returned (.tuple #[.bool false, .int .i64 9]) ∧ MemAt 58 w' b g ws cnt ∧ Two b g w w' := by
  have hN := hn'
  have hH := hM.head
  rw [hn.out] at hH
  have nb := hH.lt
  have cb := hH.cell
  rcases Int.lt_or_le i 0 with h | h0
  · go_enter Try.func33, Try.ntmps33
    go_wp2_with (first | go_in)
    go_ret2
    exact ⟨rfl, hM, Two.refl _ _ _⟩
  · rcases Int.lt_or_le i (n : Int) with h | h1
    · have h2 : (n : Int) ≤ i + 1 := by omega
      clear hi
      go_enter Try.func33, Try.ntmps33
      go_wp2_with (first | go_in)
      go_ret2
      exact ⟨rfl, hM, Two.refl _ _ _⟩
    · clear hi
      go_enter Try.func33, Try.ntmps33
      go_wp2_with (first | go_in)
      go_ret2
      exact ⟨rfl, hM, Two.refl _ _ _⟩

end Go.Proofs.Ytfhbfjlbflkbhaa
