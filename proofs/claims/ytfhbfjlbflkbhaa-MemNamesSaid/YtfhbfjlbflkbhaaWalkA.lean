/-
  The walks of the memory's methods.
-/
import Derived.Test.YtfhbfjlbflkbhaaRows
import Derived.Test.YtfhbfjlbflkbhaaState
import Derived.Test.YtfhbfjlbflkbhaaExt
import Derived.Test.YtfhbfjlbflkbhaaTail
import Derived.Test.YtfhbfjlbflkbhaaWalkB
import Derived.Lib.SliceRun
import Derived.WalkKit
import Derived.Deep.DeepMust
import Derived.WalkSpells
import Derived.WalkLawsBesides
import Derived.Handy
import Derived.Lib.Hide
import Derived.Deep.QuietTactic
import Derived.BigQuiet
namespace Go.Proofs.Ytfhbfjlbflkbhaa
open Go.RowKit

theorem made_func (fn : Fn) (first cap : Array Value) (w : World) : (Instr.makeFunc fn first cap).run Try.prog w = .ok (.func fn first cap) w := rfl
theorem isnt_nil (a : Addr) (n : Nat) (w : World) : (binOp .eql 22 (.slice (some a) n n) (.slice none 0 0)).run Try.prog w = .ok (.bool false) w :=
  Go.Lib.run_eql_slice_nil w 22 29 (some a) n n 0 0 (by rfl)

theorem wrap_add (x v : Nat) : IntKind.u64.wrap ((x : Int) + (v : Int)) = (((x + v) % 18446744073709551616 : Nat) : Int) := by
  simp [IntKind.wrap, IntKind.bits, IntKind.signed]

theorem load_ok (w : World) (b g : Nat) (ws : List Nat) (cnt n : Nat) (hM : MemAt 52 w b g ws cnt) (hn : Hid (ws.length = n)) (hn' : n ≤ 4096) (hc : cnt ≤ 1000000) (i x : Nat) (hi : i < n) (hx : Hid (ws[i]? = some x)) :
    Calls Try.prog 12 #[.pointer (some ⟨b, 0, none⟩), .int .i64 (i : Int)] w fun e w' =>
      e = .returned (.tuple #[.int .u64 (x : Int), .int .i64 0]) ∧ MemAt 52 w' b g ws (cnt + 1) ∧ Two b g w w' := by
  have hH := hM.head
  rw [hn.out] at hH
  have nb := hH.lt
  have ng := hM.row.lt
  have cb := hH.cell
  have db := hH.frozen
  have dg := hM.row.frozen
  have ne := hM.ne
  have hmf := @made_func
  have hsn := isnt_nil ⟨g, 0, none⟩ n
  have cg := hM.cell hx.out
  have i0 : (0 : Int) ≤ (i : Int) := by omega
  have i1 : (i : Int) < (n : Int) := by omega
  go_enter Try.func12, Try.ntmps12
  go_wp2_with (first | go_in)
  go_returns
  exact ⟨rfl, (hM.more (cnt + 1)).alloc _, ((Two.refl _ _ _).setB _ _).alloc _⟩

theorem load_err (w : World) (b g : Nat) (ws : List Nat) (cnt n : Nat) (hM : MemAt 52 w b g ws cnt) (hn : Hid (ws.length = n)) (hn' : n ≤ 4096) (i : Int) (hi : i < 0 ∨ (n : Int) ≤ i) :
    Calls Try.prog 12 #[.pointer (some ⟨b, 0, none⟩), .int .i64 i] w fun e w' =>
      e = .returned (.tuple #[.int .u64 0, .int .i64 9]) ∧ MemAt 52 w' b g ws cnt ∧ Two b g w w' := by
  have hH := hM.head
  rw [hn.out] at hH
  have nb := hH.lt
  have ng := hM.row.lt
  have cb := hH.cell
  have db := hH.frozen
  have dg := hM.row.frozen
  have ne := hM.ne
  have hmf := @made_func
  have hsn := isnt_nil ⟨g, 0, none⟩ n
  go_enter Try.func12, Try.ntmps12
  go_wp2_with (first | go_in)
  all_goals go_returns
  all_goals exact ⟨rfl, hM.alloc _, (Two.refl _ _ _).alloc _⟩

theorem store_ok (w : World) (b g : Nat) (ws : List Nat) (cnt n : Nat) (hM : MemAt 52 w b g ws cnt) (hn : Hid (ws.length = n)) (hn' : n ≤ 4096) (hc : cnt ≤ 1000000) (i x : Nat) (hi : i < n) (hx : Hid (ws[i]? = some x)) (v : Nat) :
    Calls Try.prog 13 #[.pointer (some ⟨b, 0, none⟩), .int .i64 (i : Int), .int .u64 (v : Int)] w fun e w' =>
      e = .returned (.int .i64 0) ∧ MemAt 52 w' b g (ws.set i v) (cnt + 1) ∧ Two b g w w' := by
  have hH := hM.head
  rw [hn.out] at hH
  have nb := hH.lt
  have ng := hM.row.lt
  have cb := hH.cell
  have db := hH.frozen
  have dg := hM.row.frozen
  have ne := hM.ne
  have hmf := @made_func
  have hsn := isnt_nil ⟨g, 0, none⟩ n
  have cg := hM.cell hx.out
  have i0 : (0 : Int) ≤ (i : Int) := by omega
  have i1 : (i : Int) < (n : Int) := by omega
  go_enter Try.func13, Try.ntmps13
  go_wp2_with (first | go_in)
  go_ret
  exact ⟨rfl, ((hM.more (cnt + 1)).put i v).alloc _, (((Two.refl _ _ _).setB _ _).setG _ _).alloc _⟩

theorem store_err (w : World) (b g : Nat) (ws : List Nat) (cnt n : Nat) (hM : MemAt 52 w b g ws cnt) (hn : Hid (ws.length = n)) (hn' : n ≤ 4096) (i : Int) (hi : i < 0 ∨ (n : Int) ≤ i) (v : Nat) :
    Calls Try.prog 13 #[.pointer (some ⟨b, 0, none⟩), .int .i64 i, .int .u64 (v : Int)] w fun e w' =>
      e = .returned (.int .i64 9) ∧ MemAt 52 w' b g ws cnt ∧ Two b g w w' := by
  have hH := hM.head
  rw [hn.out] at hH
  have nb := hH.lt
  have ng := hM.row.lt
  have cb := hH.cell
  have db := hH.frozen
  have dg := hM.row.frozen
  have ne := hM.ne
  have hmf := @made_func
  have hsn := isnt_nil ⟨g, 0, none⟩ n
  go_enter Try.func13, Try.ntmps13
  go_wp2_with (first | go_in)
  all_goals go_ret
  all_goals exact ⟨rfl, hM.alloc _, (Two.refl _ _ _).alloc _⟩

theorem add_ok (w : World) (b g : Nat) (ws : List Nat) (cnt n : Nat) (hM : MemAt 52 w b g ws cnt) (hn : Hid (ws.length = n)) (hn' : n ≤ 4096) (hc : cnt ≤ 1000000) (i x : Nat) (hi : i < n) (hx : Hid (ws[i]? = some x)) (v : Nat) :
    Calls Try.prog 11 #[.pointer (some ⟨b, 0, none⟩), .int .i64 (i : Int), .int .u64 (v : Int)] w fun e w' =>
      e = .returned (.tuple #[.int .u64 (x : Int), .int .i64 0]) ∧ MemAt 52 w' b g (ws.set i ((x + v) % 18446744073709551616)) (cnt + 1) ∧ Two b g w w' := by
  have hH := hM.head
  rw [hn.out] at hH
  have nb := hH.lt
  have ng := hM.row.lt
  have cb := hH.cell
  have db := hH.frozen
  have dg := hM.row.frozen
  have ne := hM.ne
  have hmf := @made_func
  have hsn := isnt_nil ⟨g, 0, none⟩ n
  have hy : Hid (IntKind.u64.wrap ((x : Int) + (v : Int)) = _) := wrap_add x v
  generalize (x + v) % 18446744073709551616 = y at hy ⊢
  have cg := hM.cell hx.out
  have i0 : (0 : Int) ≤ (i : Int) := by omega
  have i1 : (i : Int) < (n : Int) := by omega
  go_enter Try.func11, Try.ntmps11
  go_wp2_with (first | (go_at_call 25; refine (add1_ok _ g i (n - i) (w.heap.size + 1) w.heap.size x 0 v _ (by omega) (by omega) (by omega) (((((hM.more (cnt + 1))).alloc _).alloc _).cell hx.out) (((((hM.more (cnt + 1))).alloc _).alloc _).row.frozen _) (by (first | (go_cell; done) | (simp [go_sem]; done) | (simp [go_sem, World.cell?_alloc_past]; done) | (simp [World.cell?, World.frozen?, World.alloc, go_sem]; done))) (by (first | (go_cell; done) | (simp [go_sem]; done) | (simp [go_sem, World.cell?_alloc_past]; done) | (simp [World.cell?, World.frozen?, World.alloc, go_sem]; done))) (by (first | (go_cell; done) | (simp [go_sem]; done) | (simp [go_sem, World.cell?_alloc_past]; done) | (simp [World.cell?, World.frozen?, World.alloc, go_sem]; done))) hy).mono ?_; rintro e w1 ⟨rfl, rfl⟩) | go_in)
  go_returns
  exact ⟨rfl, ((((hM.more (cnt + 1)).put i y).alloc _).alloc _).drew, (((((Two.refl _ _ _).setB _ _).setG _ _).alloc _).alloc _).drew⟩

theorem add_err (w : World) (b g : Nat) (ws : List Nat) (cnt n : Nat) (hM : MemAt 52 w b g ws cnt) (hn : Hid (ws.length = n)) (hn' : n ≤ 4096) (i : Int) (hi : i < 0 ∨ (n : Int) ≤ i) (v : Nat) :
    Calls Try.prog 11 #[.pointer (some ⟨b, 0, none⟩), .int .i64 i, .int .u64 (v : Int)] w fun e w' =>
      e = .returned (.tuple #[.int .u64 0, .int .i64 9]) ∧ MemAt 52 w' b g ws cnt ∧ Two b g w w' := by
  have hH := hM.head
  rw [hn.out] at hH
  have nb := hH.lt
  have ng := hM.row.lt
  have cb := hH.cell
  have db := hH.frozen
  have dg := hM.row.frozen
  have ne := hM.ne
  have hmf := @made_func
  have hsn := isnt_nil ⟨g, 0, none⟩ n
  go_enter Try.func11, Try.ntmps11
  go_wp2_with (first | go_in)
  all_goals go_returns
  all_goals exact ⟨rfl, (hM.alloc _).alloc _, ((Two.refl _ _ _).alloc _).alloc _⟩

set_option maxHeartbeats 2000000 in
theorem cas_yes (w : World) (b g : Nat) (ws : List Nat) (cnt n : Nat) (hM : MemAt 52 w b g ws cnt) (hn : Hid (ws.length = n)) (hn' : n ≤ 4096) (hc : cnt ≤ 1000000) (i x : Nat) (hi : i < n) (hx : Hid (ws[i]? = some x)) (o v : Nat) (h : (x : Int) = (o : Int)) :
    Calls Try.prog 15 #[.pointer (some ⟨b, 0, none⟩), .int .i64 (i : Int), .int .u64 (o : Int), .int .u64 (v : Int)] w fun e w' =>
      e = .returned (.tuple #[.bool true, .int .i64 0]) ∧ MemAt 52 w' b g (ws.set i v) (cnt + 1) ∧ Two b g w w' := by
  have hH := hM.head
  rw [hn.out] at hH
  have nb := hH.lt
  have ng := hM.row.lt
  have cb := hH.cell
  have db := hH.frozen
  have dg := hM.row.frozen
  have ne := hM.ne
  have hmf := @made_func
  have hsn := isnt_nil ⟨g, 0, none⟩ n
  have cg := hM.cell hx.out
  have i0 : (0 : Int) ≤ (i : Int) := by omega
  have i1 : (i : Int) < (n : Int) := by omega
  have h3 := ((hH.alloc (.cells #[.int .u64 (o : Int)] 29)).alloc (.cells #[.int .u64 (v : Int)] 29)).alloc (.cells #[.bool false] 4)
  have l0 : (((w.alloc (.cells #[.int .u64 (o : Int)] 29)).alloc (.cells #[.int .u64 (v : Int)] 29)).alloc (.cells #[.bool false] 4)).cell? ⟨b, 0, none⟩ = some (.slice (some ⟨g, 0, none⟩) n n) := h3.cell 0
  have l1 : (((w.alloc (.cells #[.int .u64 (o : Int)] 29)).alloc (.cells #[.int .u64 (v : Int)] 29)).alloc (.cells #[.bool false] 4)).cell? ⟨b, 1, none⟩ = some (.int .i64 (cnt : Int)) := h3.cell 1
  have l2 : (((w.alloc (.cells #[.int .u64 (o : Int)] 29)).alloc (.cells #[.int .u64 (v : Int)] 29)).alloc (.cells #[.bool false] 4)).frozen? ⟨b, 1, none⟩ = false := h3.frozen 1
  go_enter Try.func15, Try.ntmps15
  go_wp2_with (first | (go_at_call 29; refine (cas1_ok _ g i (n - i) (w.heap.size + 1 + 1) w.heap.size (w.heap.size + 1) x o v false (by omega) (by omega) (by omega) (by omega) (by omega) (((((hM.alloc _).alloc _).alloc _).more (cnt + 1)).cell hx.out) (((((hM.alloc _).alloc _).alloc _).more (cnt + 1)).row.frozen _) (by (first | (go_cell; done) | (simp [go_sem]; done) | (simp [go_sem, World.cell?_alloc_past]; done) | (simp [World.cell?, World.frozen?, World.alloc, go_sem]; done))) (by (first | (go_cell; done) | (simp [go_sem]; done) | (simp [go_sem, World.cell?_alloc_past]; done) | (simp [World.cell?, World.frozen?, World.alloc, go_sem]; done))) (by (first | (go_cell; done) | (simp [go_sem]; done) | (simp [go_sem, World.cell?_alloc_past]; done) | (simp [World.cell?, World.frozen?, World.alloc, go_sem]; done))) (by (first | (go_cell; done) | (simp [go_sem]; done) | (simp [go_sem, World.cell?_alloc_past]; done) | (simp [World.cell?, World.frozen?, World.alloc, go_sem]; done)))).mono ?_; rintro e w1 ⟨rfl, hw⟩; obtain ⟨hM1, hT1, hP1⟩ : MemAt 52 w1 b g (ws.set i v) (cnt + 1) ∧ Two b g w w1 ∧ Blk w1 (w.heap.size + 1 + 1) 4 #[.bool true] := by { rw [hw, if_pos h]; exact ⟨((((((hM.alloc _).alloc _).alloc _).more (cnt + 1)).far (p := ⟨w.heap.size + 1 + 1, 0, none⟩) (by show b ≠ w.heap.size + 1 + 1; omega) (by show g ≠ w.heap.size + 1 + 1; omega) _).put i v).drew, ((((((Two.refl _ _ _).alloc _).alloc _).alloc _).setB _ _).setNew (by show w.heap.size ≤ w.heap.size + 1 + 1; omega) _).setG _ _ |>.drew, ((((Blk.new3 w _ _ 4 _).far (p := ⟨b, 1, none⟩) (by show w.heap.size + 1 + 1 ≠ b; omega) _).set_ 0 _).far (p := ⟨g, i, none⟩) (by show w.heap.size + 1 + 1 ≠ g; omega) _).drew⟩ }; clear hw; have e1 : w1.cell? ⟨w.heap.size + 1 + 1, 0, none⟩ = some (.bool true) := hP1.cell 0; have e2 := hP1.frozen 0; have e3 : (w1.setCell ⟨w.heap.size + 1 + 1, 0, none⟩ (.bool true)).cell? ⟨w.heap.size + 1 + 1, 0, none⟩ = some (.bool true) := (hP1.set_ 0 _).cell 0) | go_in)
  refine bodyPost_ret (v := .tuple #[.bool true, .int .i64 0]) (by simp [results, Try.results15, go_sem, e3]; try rfl) rfl ?_
  exact ⟨rfl, hM1.far (p := ⟨w.heap.size + 1 + 1, 0, none⟩) (by show b ≠ w.heap.size + 1 + 1; omega) (by show g ≠ w.heap.size + 1 + 1; omega) _, hT1.setNew (by show w.heap.size ≤ w.heap.size + 1 + 1; omega) _⟩

set_option maxHeartbeats 2000000 in
theorem cas_no (w : World) (b g : Nat) (ws : List Nat) (cnt n : Nat) (hM : MemAt 52 w b g ws cnt) (hn : Hid (ws.length = n)) (hn' : n ≤ 4096) (hc : cnt ≤ 1000000) (i x : Nat) (hi : i < n) (hx : Hid (ws[i]? = some x)) (o v : Nat) (h : (x : Int) ≠ (o : Int)) :
    Calls Try.prog 15 #[.pointer (some ⟨b, 0, none⟩), .int .i64 (i : Int), .int .u64 (o : Int), .int .u64 (v : Int)] w fun e w' =>
      e = .returned (.tuple #[.bool false, .int .i64 0]) ∧ MemAt 52 w' b g ws (cnt + 1) ∧ Two b g w w' := by
  have hH := hM.head
  rw [hn.out] at hH
  have nb := hH.lt
  have ng := hM.row.lt
  have cb := hH.cell
  have db := hH.frozen
  have dg := hM.row.frozen
  have ne := hM.ne
  have hmf := @made_func
  have hsn := isnt_nil ⟨g, 0, none⟩ n
  have cg := hM.cell hx.out
  have i0 : (0 : Int) ≤ (i : Int) := by omega
  have i1 : (i : Int) < (n : Int) := by omega
  have h3 := ((hH.alloc (.cells #[.int .u64 (o : Int)] 29)).alloc (.cells #[.int .u64 (v : Int)] 29)).alloc (.cells #[.bool false] 4)
  have l0 : (((w.alloc (.cells #[.int .u64 (o : Int)] 29)).alloc (.cells #[.int .u64 (v : Int)] 29)).alloc (.cells #[.bool false] 4)).cell? ⟨b, 0, none⟩ = some (.slice (some ⟨g, 0, none⟩) n n) := h3.cell 0
  have l1 : (((w.alloc (.cells #[.int .u64 (o : Int)] 29)).alloc (.cells #[.int .u64 (v : Int)] 29)).alloc (.cells #[.bool false] 4)).cell? ⟨b, 1, none⟩ = some (.int .i64 (cnt : Int)) := h3.cell 1
  have l2 : (((w.alloc (.cells #[.int .u64 (o : Int)] 29)).alloc (.cells #[.int .u64 (v : Int)] 29)).alloc (.cells #[.bool false] 4)).frozen? ⟨b, 1, none⟩ = false := h3.frozen 1
  go_enter Try.func15, Try.ntmps15
  go_wp2_with (first | (go_at_call 29; refine (cas1_ok _ g i (n - i) (w.heap.size + 1 + 1) w.heap.size (w.heap.size + 1) x o v false (by omega) (by omega) (by omega) (by omega) (by omega) (((((hM.alloc _).alloc _).alloc _).more (cnt + 1)).cell hx.out) (((((hM.alloc _).alloc _).alloc _).more (cnt + 1)).row.frozen _) (by (first | (go_cell; done) | (simp [go_sem]; done) | (simp [go_sem, World.cell?_alloc_past]; done) | (simp [World.cell?, World.frozen?, World.alloc, go_sem]; done))) (by (first | (go_cell; done) | (simp [go_sem]; done) | (simp [go_sem, World.cell?_alloc_past]; done) | (simp [World.cell?, World.frozen?, World.alloc, go_sem]; done))) (by (first | (go_cell; done) | (simp [go_sem]; done) | (simp [go_sem, World.cell?_alloc_past]; done) | (simp [World.cell?, World.frozen?, World.alloc, go_sem]; done))) (by (first | (go_cell; done) | (simp [go_sem]; done) | (simp [go_sem, World.cell?_alloc_past]; done) | (simp [World.cell?, World.frozen?, World.alloc, go_sem]; done)))).mono ?_; rintro e w1 ⟨rfl, hw⟩; obtain ⟨hM1, hT1, hP1⟩ : MemAt 52 w1 b g ws (cnt + 1) ∧ Two b g w w1 ∧ Blk w1 (w.heap.size + 1 + 1) 4 #[.bool false] := by { rw [hw, if_neg h]; exact ⟨(((((hM.alloc _).alloc _).alloc _).more (cnt + 1)).far (p := ⟨w.heap.size + 1 + 1, 0, none⟩) (by show b ≠ w.heap.size + 1 + 1; omega) (by show g ≠ w.heap.size + 1 + 1; omega) _).drew, (((((Two.refl _ _ _).alloc _).alloc _).alloc _).setB _ _).setNew (by show w.heap.size ≤ w.heap.size + 1 + 1; omega) _ |>.drew, (((Blk.new3 w _ _ 4 _).far (p := ⟨b, 1, none⟩) (by show w.heap.size + 1 + 1 ≠ b; omega) _).set_ 0 _).drew⟩ }; clear hw; have e1 : w1.cell? ⟨w.heap.size + 1 + 1, 0, none⟩ = some (.bool false) := hP1.cell 0; have e2 := hP1.frozen 0; have e3 : (w1.setCell ⟨w.heap.size + 1 + 1, 0, none⟩ (.bool false)).cell? ⟨w.heap.size + 1 + 1, 0, none⟩ = some (.bool false) := (hP1.set_ 0 _).cell 0) | go_in)
  refine bodyPost_ret (v := .tuple #[.bool false, .int .i64 0]) (by simp [results, Try.results15, go_sem, e3]; try rfl) rfl ?_
  exact ⟨rfl, hM1.far (p := ⟨w.heap.size + 1 + 1, 0, none⟩) (by show b ≠ w.heap.size + 1 + 1; omega) (by show g ≠ w.heap.size + 1 + 1; omega) _, hT1.setNew (by show w.heap.size ≤ w.heap.size + 1 + 1; omega) _⟩

theorem cas_err (w : World) (b g : Nat) (ws : List Nat) (cnt n : Nat) (hM : MemAt 52 w b g ws cnt) (hn : Hid (ws.length = n)) (hn' : n ≤ 4096) (i : Int) (hi : i < 0 ∨ (n : Int) ≤ i) (o v : Nat) :
    Calls Try.prog 15 #[.pointer (some ⟨b, 0, none⟩), .int .i64 i, .int .u64 (o : Int), .int .u64 (v : Int)] w fun e w' =>
      e = .returned (.tuple #[.bool false, .int .i64 9]) ∧ MemAt 52 w' b g ws cnt ∧ Two b g w w' := by
  have hH := hM.head
  rw [hn.out] at hH
  have nb := hH.lt
  have ng := hM.row.lt
  have cb := hH.cell
  have db := hH.frozen
  have dg := hM.row.frozen
  have ne := hM.ne
  have hmf := @made_func
  have hsn := isnt_nil ⟨g, 0, none⟩ n
  have h3 := ((hH.alloc (.cells #[.int .u64 (o : Int)] 29)).alloc (.cells #[.int .u64 (v : Int)] 29)).alloc (.cells #[.bool false] 4)
  have l0 : (((w.alloc (.cells #[.int .u64 (o : Int)] 29)).alloc (.cells #[.int .u64 (v : Int)] 29)).alloc (.cells #[.bool false] 4)).cell? ⟨b, 0, none⟩ = some (.slice (some ⟨g, 0, none⟩) n n) := h3.cell 0
  have l1 : (((w.alloc (.cells #[.int .u64 (o : Int)] 29)).alloc (.cells #[.int .u64 (v : Int)] 29)).alloc (.cells #[.bool false] 4)).cell? ⟨b, 1, none⟩ = some (.int .i64 (cnt : Int)) := h3.cell 1
  have l2 : (((w.alloc (.cells #[.int .u64 (o : Int)] 29)).alloc (.cells #[.int .u64 (v : Int)] 29)).alloc (.cells #[.bool false] 4)).frozen? ⟨b, 1, none⟩ = false := h3.frozen 1
  go_enter Try.func15, Try.ntmps15
  go_wp2_with (first | go_in)
  all_goals go_returns
  all_goals exact ⟨rfl, ((hM.alloc _).alloc _).alloc _, (((Two.refl _ _ _).alloc _).alloc _).alloc _⟩

end Go.Proofs.Ytfhbfjlbflkbhaa
