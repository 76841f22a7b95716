/-
  Cas2.
-/
import Derived.Test.YtfhbfjlbflkbhaaWalkA
import Derived.WalkKit
import Derived.Deep.DeepMust
import Derived.WalkSpells
import Derived.WalkLawsBesides
import Derived.Handy
import Derived.Lib.Hide
import Derived.Deep.QuietTactic
import Derived.BigQuiet
namespace Go.Proofs.Ytfhbfjlbflkbhaa
open Go.RowKit

theorem Blk.new5 (w : World) (o1 o2 o3 o4 : Obj) (t : TypeId) (cs : Array Value) : Blk (((((w.alloc o1).alloc o2).alloc o3).alloc o4).alloc (.cells cs t)) (w.heap.size + 1 + 1 + 1 + 1) t cs := by
  have k := Blk.new3 ((w.alloc o1).alloc o2) o3 o4 t cs
  rw [World.size_alloc, World.size_alloc] at k
  exact k

set_option maxHeartbeats 2000000 in
theorem cas2_yes (w : World) (b g : Nat) (ws : List Nat) (cnt n : Nat) (hM : MemAt 52 w b g ws cnt) (hn : Hid (ws.length = n)) (hn' : n ≤ 4096) (hc : cnt ≤ 1000000) (i x y : Nat) (hi : i + 1 < n) (hx : Hid (ws[i]? = some x)) (hy : Hid (ws[i + 1]? = some y)) (o s v v2 : Nat) (h : (x : Int) = (o : Int) ∧ (y : Int) = (s : Int)) :
    Calls Try.prog 14 #[.pointer (some ⟨b, 0, none⟩), .int .i64 (i : Int), .int .u64 (o : Int), .int .u64 (s : Int), .int .u64 (v : Int), .int .u64 (v2 : Int)] w fun e w' =>
      e = .returned (.tuple #[.bool true, .int .i64 0]) ∧ MemAt 52 w' b g ((ws.set i v).set (i + 1) v2) (cnt + 1) ∧ Two b g w w' := by
  have hH := hM.head
  rw [hn.out] at hH
  have nb := hH.lt
  have ng := hM.row.lt
  have cb := hH.cell
  have db := hH.frozen
  have dg := hM.row.frozen
  have ne := hM.ne
  have hmf := @made_func
  have hsn := isnt_nil ⟨g, 0, none⟩ n
  have h5 := (((((hH.alloc (.cells #[.int .u64 (o : Int)] 29)).alloc (.cells #[.int .u64 (s : Int)] 29)).alloc (.cells #[.int .u64 (v : Int)] 29)).alloc (.cells #[.int .u64 (v2 : Int)] 29)).alloc (.cells #[.bool false] 4))
  have l0 : (((((w.alloc (.cells #[.int .u64 (o : Int)] 29)).alloc (.cells #[.int .u64 (s : Int)] 29)).alloc (.cells #[.int .u64 (v : Int)] 29)).alloc (.cells #[.int .u64 (v2 : Int)] 29)).alloc (.cells #[.bool false] 4)).cell? ⟨b, 0, none⟩ = some (.slice (some ⟨g, 0, none⟩) n n) := h5.cell 0
  have l1 : (((((w.alloc (.cells #[.int .u64 (o : Int)] 29)).alloc (.cells #[.int .u64 (s : Int)] 29)).alloc (.cells #[.int .u64 (v : Int)] 29)).alloc (.cells #[.int .u64 (v2 : Int)] 29)).alloc (.cells #[.bool false] 4)).cell? ⟨b, 1, none⟩ = some (.int .i64 (cnt : Int)) := h5.cell 1
  have l2 : (((((w.alloc (.cells #[.int .u64 (o : Int)] 29)).alloc (.cells #[.int .u64 (s : Int)] 29)).alloc (.cells #[.int .u64 (v : Int)] 29)).alloc (.cells #[.int .u64 (v2 : Int)] 29)).alloc (.cells #[.bool false] 4)).frozen? ⟨b, 1, none⟩ = false := h5.frozen 1
  have i0 : (0 : Int) ≤ (i : Int) := by omega
  have i1 : (i : Int) + 1 < (n : Int) := by omega
  go_enter Try.func14, Try.ntmps14
  go_wp2_with (first | (go_at_call 28; refine (cas2c_ok _ g i (n - i) (w.heap.size + 1 + 1 + 1 + 1) w.heap.size (w.heap.size + 1) (w.heap.size + 1 + 1) (w.heap.size + 1 + 1 + 1) x y o s v v2 false (by omega) (by omega) (by omega) (by omega) (by omega) (by omega) (by omega) (by omega) (by omega) (((((((hM.alloc _).alloc _).alloc _).alloc _).alloc _).more (cnt + 1)).cell hx.out) (((((((hM.alloc _).alloc _).alloc _).alloc _).alloc _).more (cnt + 1)).row.frozen _) (((((((hM.alloc _).alloc _).alloc _).alloc _).alloc _).more (cnt + 1)).cell hy.out) (((((((hM.alloc _).alloc _).alloc _).alloc _).alloc _).more (cnt + 1)).row.frozen _) (by (first | (go_cell; done) | (simp [go_sem]; done) | (simp [go_sem, World.cell?_alloc_past]; done) | (simp [World.cell?, World.frozen?, World.alloc, go_sem]; done))) (by (first | (go_cell; done) | (simp [go_sem]; done) | (simp [go_sem, World.cell?_alloc_past]; done) | (simp [World.cell?, World.frozen?, World.alloc, go_sem]; done))) (by (first | (go_cell; done) | (simp [go_sem]; done) | (simp [go_sem, World.cell?_alloc_past]; done) | (simp [World.cell?, World.frozen?, World.alloc, go_sem]; done))) (by (first | (go_cell; done) | (simp [go_sem]; done) | (simp [go_sem, World.cell?_alloc_past]; done) | (simp [World.cell?, World.frozen?, World.alloc, go_sem]; done))) (by (first | (go_cell; done) | (simp [go_sem]; done) | (simp [go_sem, World.cell?_alloc_past]; done) | (simp [World.cell?, World.frozen?, World.alloc, go_sem]; done))) (by (first | (go_cell; done) | (simp [go_sem]; done) | (simp [go_sem, World.cell?_alloc_past]; done) | (simp [World.cell?, World.frozen?, World.alloc, go_sem]; done)))).mono ?_; rintro e w1 ⟨rfl, hw⟩; obtain ⟨hM1, hT1, hP1⟩ : MemAt 52 w1 b g ((ws.set i v).set (i + 1) v2) (cnt + 1) ∧ Two b g w w1 ∧ Blk w1 (w.heap.size + 1 + 1 + 1 + 1) 4 #[.bool true] := by { rw [hw, if_pos h]; exact ⟨((((((((((hM.alloc _).alloc _).alloc _).alloc _).alloc _).more (cnt + 1)).far (p := ⟨w.heap.size + 1 + 1 + 1 + 1, 0, none⟩) (by show b ≠ w.heap.size + 1 + 1 + 1 + 1; omega) (by show g ≠ w.heap.size + 1 + 1 + 1 + 1; omega) _).drew.put i v).put (i + 1) v2).drew), ((((((((((Two.refl _ _ _).alloc _).alloc _).alloc _).alloc _).alloc _).setB _ _).setNew (by show w.heap.size ≤ w.heap.size + 1 + 1 + 1 + 1; omega) _).drew.setG _ _).setG _ _).drew, ((((((Blk.new5 w _ _ _ _ 4 _).far (p := ⟨b, 1, none⟩) (by show w.heap.size + 1 + 1 + 1 + 1 ≠ b; omega) _).set_ 0 _).drew.far (p := ⟨g, i, none⟩) (by show w.heap.size + 1 + 1 + 1 + 1 ≠ g; omega) _).far (p := ⟨g, i + 1, none⟩) (by show w.heap.size + 1 + 1 + 1 + 1 ≠ g; omega) _).drew)⟩ }; clear hw; have e1 : w1.cell? ⟨w.heap.size + 1 + 1 + 1 + 1, 0, none⟩ = some (.bool true) := hP1.cell 0; have e2 := hP1.frozen 0; have e3 : (w1.setCell ⟨w.heap.size + 1 + 1 + 1 + 1, 0, none⟩ (.bool true)).cell? ⟨w.heap.size + 1 + 1 + 1 + 1, 0, none⟩ = some (.bool true) := (hP1.set_ 0 _).cell 0) | go_in)
  refine bodyPost_ret (v := .tuple #[.bool true, .int .i64 0]) (by simp [results, Try.results14, go_sem, e3]; try rfl) rfl ?_
  exact ⟨rfl, hM1.far (p := ⟨w.heap.size + 1 + 1 + 1 + 1, 0, none⟩) (by show b ≠ w.heap.size + 1 + 1 + 1 + 1; omega) (by show g ≠ w.heap.size + 1 + 1 + 1 + 1; omega) _, hT1.setNew (by show w.heap.size ≤ w.heap.size + 1 + 1 + 1 + 1; omega) _⟩

set_option maxHeartbeats 2000000 in
theorem cas2_no (w : World) (b g : Nat) (ws : List Nat) (cnt n : Nat) (hM : MemAt 52 w b g ws cnt) (hn : Hid (ws.length = n)) (hn' : n ≤ 4096) (hc : cnt ≤ 1000000) (i x y : Nat) (hi : i + 1 < n) (hx : Hid (ws[i]? = some x)) (hy : Hid (ws[i + 1]? = some y)) (o s v v2 : Nat) (h : ¬ ((x : Int) = (o : Int) ∧ (y : Int) = (s : Int))) :
    Calls Try.prog 14 #[.pointer (some ⟨b, 0, none⟩), .int .i64 (i : Int), .int .u64 (o : Int), .int .u64 (s : Int), .int .u64 (v : Int), .int .u64 (v2 : Int)] w fun e w' =>
      e = .returned (.tuple #[.bool false, .int .i64 0]) ∧ MemAt 52 w' b g ws (cnt + 1) ∧ Two b g w w' := by
  have hH := hM.head
  rw [hn.out] at hH
  have nb := hH.lt
  have ng := hM.row.lt
  have cb := hH.cell
  have db := hH.frozen
  have dg := hM.row.frozen
  have ne := hM.ne
  have hmf := @made_func
  have hsn := isnt_nil ⟨g, 0, none⟩ n
  have h5 := (((((hH.alloc (.cells #[.int .u64 (o : Int)] 29)).alloc (.cells #[.int .u64 (s : Int)] 29)).alloc (.cells #[.int .u64 (v : Int)] 29)).alloc (.cells #[.int .u64 (v2 : Int)] 29)).alloc (.cells #[.bool false] 4))
  have l0 : (((((w.alloc (.cells #[.int .u64 (o : Int)] 29)).alloc (.cells #[.int .u64 (s : Int)] 29)).alloc (.cells #[.int .u64 (v : Int)] 29)).alloc (.cells #[.int .u64 (v2 : Int)] 29)).alloc (.cells #[.bool false] 4)).cell? ⟨b, 0, none⟩ = some (.slice (some ⟨g, 0, none⟩) n n) := h5.cell 0
  have l1 : (((((w.alloc (.cells #[.int .u64 (o : Int)] 29)).alloc (.cells #[.int .u64 (s : Int)] 29)).alloc (.cells #[.int .u64 (v : Int)] 29)).alloc (.cells #[.int .u64 (v2 : Int)] 29)).alloc (.cells #[.bool false] 4)).cell? ⟨b, 1, none⟩ = some (.int .i64 (cnt : Int)) := h5.cell 1
  have l2 : (((((w.alloc (.cells #[.int .u64 (o : Int)] 29)).alloc (.cells #[.int .u64 (s : Int)] 29)).alloc (.cells #[.int .u64 (v : Int)] 29)).alloc (.cells #[.int .u64 (v2 : Int)] 29)).alloc (.cells #[.bool false] 4)).frozen? ⟨b, 1, none⟩ = false := h5.frozen 1
  have i0 : (0 : Int) ≤ (i : Int) := by omega
  have i1 : (i : Int) + 1 < (n : Int) := by omega
  go_enter Try.func14, Try.ntmps14
  go_wp2_with (first | (go_at_call 28; refine (cas2c_ok _ g i (n - i) (w.heap.size + 1 + 1 + 1 + 1) w.heap.size (w.heap.size + 1) (w.heap.size + 1 + 1) (w.heap.size + 1 + 1 + 1) x y o s v v2 false (by omega) (by omega) (by omega) (by omega) (by omega) (by omega) (by omega) (by omega) (by omega) (((((((hM.alloc _).alloc _).alloc _).alloc _).alloc _).more (cnt + 1)).cell hx.out) (((((((hM.alloc _).alloc _).alloc _).alloc _).alloc _).more (cnt + 1)).row.frozen _) (((((((hM.alloc _).alloc _).alloc _).alloc _).alloc _).more (cnt + 1)).cell hy.out) (((((((hM.alloc _).alloc _).alloc _).alloc _).alloc _).more (cnt + 1)).row.frozen _) (by (first | (go_cell; done) | (simp [go_sem]; done) | (simp [go_sem, World.cell?_alloc_past]; done) | (simp [World.cell?, World.frozen?, World.alloc, go_sem]; done))) (by (first | (go_cell; done) | (simp [go_sem]; done) | (simp [go_sem, World.cell?_alloc_past]; done) | (simp [World.cell?, World.frozen?, World.alloc, go_sem]; done))) (by (first | (go_cell; done) | (simp [go_sem]; done) | (simp [go_sem, World.cell?_alloc_past]; done) | (simp [World.cell?, World.frozen?, World.alloc, go_sem]; done))) (by (first | (go_cell; done) | (simp [go_sem]; done) | (simp [go_sem, World.cell?_alloc_past]; done) | (simp [World.cell?, World.frozen?, World.alloc, go_sem]; done))) (by (first | (go_cell; done) | (simp [go_sem]; done) | (simp [go_sem, World.cell?_alloc_past]; done) | (simp [World.cell?, World.frozen?, World.alloc, go_sem]; done))) (by (first | (go_cell; done) | (simp [go_sem]; done) | (simp [go_sem, World.cell?_alloc_past]; done) | (simp [World.cell?, World.frozen?, World.alloc, go_sem]; done)))).mono ?_; rintro e w1 ⟨rfl, hw⟩; obtain ⟨hM1, hT1, hP1⟩ : MemAt 52 w1 b g ws (cnt + 1) ∧ Two b g w w1 ∧ Blk w1 (w.heap.size + 1 + 1 + 1 + 1) 4 #[.bool false] := by { rw [hw, if_neg h]; exact ⟨(((((((hM.alloc _).alloc _).alloc _).alloc _).alloc _).more (cnt + 1)).far (p := ⟨w.heap.size + 1 + 1 + 1 + 1, 0, none⟩) (by show b ≠ w.heap.size + 1 + 1 + 1 + 1; omega) (by show g ≠ w.heap.size + 1 + 1 + 1 + 1; omega) _).drew, ((((((((Two.refl _ _ _).alloc _).alloc _).alloc _).alloc _).alloc _).setB _ _).setNew (by show w.heap.size ≤ w.heap.size + 1 + 1 + 1 + 1; omega) _).drew, (((Blk.new5 w _ _ _ _ 4 _).far (p := ⟨b, 1, none⟩) (by show w.heap.size + 1 + 1 + 1 + 1 ≠ b; omega) _).set_ 0 _).drew⟩ }; clear hw; have e1 : w1.cell? ⟨w.heap.size + 1 + 1 + 1 + 1, 0, none⟩ = some (.bool false) := hP1.cell 0; have e2 := hP1.frozen 0; have e3 : (w1.setCell ⟨w.heap.size + 1 + 1 + 1 + 1, 0, none⟩ (.bool false)).cell? ⟨w.heap.size + 1 + 1 + 1 + 1, 0, none⟩ = some (.bool false) := (hP1.set_ 0 _).cell 0) | go_in)
  refine bodyPost_ret (v := .tuple #[.bool false, .int .i64 0]) (by simp [results, Try.results14, go_sem, e3]; try rfl) rfl ?_
  exact ⟨rfl, hM1.far (p := ⟨w.heap.size + 1 + 1 + 1 + 1, 0, none⟩) (by show b ≠ w.heap.size + 1 + 1 + 1 + 1; omega) (by show g ≠ w.heap.size + 1 + 1 + 1 + 1; omega) _, hT1.setNew (by show w.heap.size ≤ w.heap.size + 1 + 1 + 1 + 1; omega) _⟩

theorem cas2_err (w : World) (b g : Nat) (ws : List Nat) (cnt n : Nat) (hM : MemAt 52 w b g ws cnt) (hn : Hid (ws.length = n)) (hn' : n ≤ 4096) (i : Int) (hi : i < 0 ∨ (n : Int) ≤ i + 1) (o s v v2 : Nat) :
    Calls Try.prog 14 #[.pointer (some ⟨b, 0, none⟩), .int .i64 i, .int .u64 (o : Int), .int .u64 (s : Int), .int .u64 (v : Int), .int .u64 (v2 : Int)] w fun e w' =>
      e = .returned (.tuple #[.bool false, .int .i64 9]) ∧ MemAt 52 w' b g ws cnt ∧ Two b g w w' := by
  have hH := hM.head
  rw [hn.out] at hH
  have nb := hH.lt
  have ng := hM.row.lt
  have cb := hH.cell
  have db := hH.frozen
  have dg := hM.row.frozen
  have ne := hM.ne
  have hmf := @made_func
  have hsn := isnt_nil ⟨g, 0, none⟩ n
  have h5 := (((((hH.alloc (.cells #[.int .u64 (o : Int)] 29)).alloc (.cells #[.int .u64 (s : Int)] 29)).alloc (.cells #[.int .u64 (v : Int)] 29)).alloc (.cells #[.int .u64 (v2 : Int)] 29)).alloc (.cells #[.bool false] 4))
  have l0 : (((((w.alloc (.cells #[.int .u64 (o : Int)] 29)).alloc (.cells #[.int .u64 (s : Int)] 29)).alloc (.cells #[.int .u64 (v : Int)] 29)).alloc (.cells #[.int .u64 (v2 : Int)] 29)).alloc (.cells #[.bool false] 4)).cell? ⟨b, 0, none⟩ = some (.slice (some ⟨g, 0, none⟩) n n) := h5.cell 0
  have l1 : (((((w.alloc (.cells #[.int .u64 (o : Int)] 29)).alloc (.cells #[.int .u64 (s : Int)] 29)).alloc (.cells #[.int .u64 (v : Int)] 29)).alloc (.cells #[.int .u64 (v2 : Int)] 29)).alloc (.cells #[.bool false] 4)).cell? ⟨b, 1, none⟩ = some (.int .i64 (cnt : Int)) := h5.cell 1
  have l2 : (((((w.alloc (.cells #[.int .u64 (o : Int)] 29)).alloc (.cells #[.int .u64 (s : Int)] 29)).alloc (.cells #[.int .u64 (v : Int)] 29)).alloc (.cells #[.int .u64 (v2 : Int)] 29)).alloc (.cells #[.bool false] 4)).frozen? ⟨b, 1, none⟩ = false := h5.frozen 1
  go_enter Try.func14, Try.ntmps14
  go_wp2_with (first | go_in)
  all_goals go_returns
  all_goals exact ⟨rfl, (((((hM.alloc _).alloc _).alloc _).alloc _).alloc _), (((((Two.refl _ _ _).alloc _).alloc _).alloc _).alloc _).alloc _⟩

end Go.Proofs.Ytfhbfjlbflkbhaa
