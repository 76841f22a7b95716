/-
  The walks of the laws AliasAnswers, AliasOrder, AliasRoom.
-/
import Derived.Test.YtmmfghialjmgmaaWorks
import Derived.Test.YtmmfghialjmgmaaMade
import Derived.Test.YtmmfghialjmgmaaPlainB
import Derived.Test.YtmmfghialjmgmaaTail
import Derived.Test.YtmmfghialjmgmaaStore
namespace Go.Proofs.Ytmmfghialjmgmaa
open Go.RowKit

theorem answers_any (s a f s' a' f' : Int) (w : World) : Calls Try.prog 3 #[.agg #[.int .i64 s, .int .i64 a, .int .i64 f], .agg #[.int .i64 s', .int .i64 a', .int .i64 f']] w fun e w' =>
    e = .returned (.bool true) ∧ Below w.heap.size w w' := by
  go_enter Try.func3, Try.ntmps3
  go_wp2
  (refine wp_region_ext (w.heap.size + 2) (by kernel_rfl) (by kernel_rfl) (by go_size) (fun hxc hxf hxh hxn => ?_); (repeat (first | go_big_quiet_step (first | (go_at_call 9; exact ext_call (check_any _ _ _ _)) | (go_at_call 10; exact ext_call (refCheck_any _ _ _ _)) | (go_at_call 11; exact ext_call (step_any _ _ _ _)) | (go_at_call 12; exact ext_call (refStep_any _ _ _ _)) | (go_at_call 13; exact ext_call (serves_any _ _ _ _ _ _ _)) | (go_at_call 14; exact ext_call (refServes_any _ _ _ _ _ _ _)) | (go_at_call 15; exact ext_call (works_any _))) | quiet_step (first | (go_at_call 9; exact ext_call (check_any _ _ _ _)) | (go_at_call 10; exact ext_call (refCheck_any _ _ _ _)) | (go_at_call 11; exact ext_call (step_any _ _ _ _)) | (go_at_call 12; exact ext_call (refStep_any _ _ _ _)) | (go_at_call 13; exact ext_call (serves_any _ _ _ _ _ _ _)) | (go_at_call 14; exact ext_call (refServes_any _ _ _ _ _ _ _)) | (go_at_call 15; exact ext_call (works_any _))))); refine wpQuiet_nil ?_; intro w1 hs1; clear hxc hxf hxh hxn; obtain ⟨hb1, hz1, hc1, hf1⟩ := ext_known hs1 (w.heap.size + 2) (by go_size); clear hs1)
  go_wp2
  go_ret
  exact ⟨rfl, by (repeat' (first | (with_reducible exact Below.refl _ _) | (with_reducible assumption) | (with_reducible refine Below.alloc ?_ ?_ _) | (with_reducible refine below_drewN ?_ _) | (with_reducible refine Below.drew ?_) | (with_reducible refine Below.setCell ?_ ?_ _) | (with_reducible refine below_two ?_ (by with_reducible assumption)) | go_size))⟩

def mS (s : Int) : Int := 1 + s % 1024
def mA (a : Int) : Int := alg (a % 4)
theorem made_m (s a f : Int) (w : World) : Calls Try.prog 18 #[.agg #[.int .i64 s, .int .i64 a, .int .i64 f]] w fun e w' =>
    e = .returned (.agg #[.int .i64 (mS s), .int .i64 (mA a), .int .i64 0]) ∧ Below w.heap.size w w' := made_any s a f w

theorem order_any (s a f s' a' f' s'' a'' f'' : Int) (w : World) : Calls Try.prog 5 #[.agg #[.int .i64 s, .int .i64 a, .int .i64 f], .agg #[.int .i64 s', .int .i64 a', .int .i64 f'], .agg #[.int .i64 s'', .int .i64 a'', .int .i64 f'']] w fun e w' =>
    e = .returned (.bool true) ∧ Below w.heap.size w w' := by
  have o1 : errOf (mS s) (mA a) 0 = 0 := errOf_ok (okB_made (s % 1024) (a % 4) (by omega) (by omega))
  have o2 : servesB (mS s) (mA a) 0 (mS s) (mA a) 0 = true := serves_refl (okB_made (s % 1024) (a % 4) (by omega) (by omega))
  cases t1 : servesB (mS s) (mA a) 0 (mS s') (mA a') 0
  · go_enter Try.func5, Try.ntmps5
    go_wp2
    (refine wp_region_tail 6 (w.heap.size + 3) ?_ ?_ ?_ ?_ ?_ ?_ ?_; kernel_rfl; kernel_rfl; kernel_rfl; kernel_rfl; kernel_rfl; go_size; intro hxc hxf hxh hxn; simp only [List.take, List.drop]; (repeat (first | go_big_quiet_step (first | (go_at_call 18; exact ext_call (made_m _ _ _ _))) | quiet_step (first | (go_at_call 18; exact ext_call (made_m _ _ _ _))))); refine wpQuiet_nil ?_; intro w1 hs1; clear hxc hxf hxh hxn; obtain ⟨hb1, hz1, hc1, hf1⟩ := ext_known hs1 (w.heap.size + 3) (by go_size); clear hs1)
    have k0 : Blk w1 w.heap.size 23 #[.int .i64 s, .int .i64 a, .int .i64 f] := (((Blk.new w _ _).alloc _).alloc _).below hb1
    have k1 : Blk w1 (w.heap.size + 1) 23 #[.int .i64 s', .int .i64 a', .int .i64 f'] := by
      have k := ((Blk.new (w.alloc (.cells #[.int .i64 s, .int .i64 a, .int .i64 f] 23)) 23 #[.int .i64 s', .int .i64 a', .int .i64 f']).alloc _).below hb1
      rwa [World.size_alloc] at k
    have k2 : Blk w1 (w.heap.size + 1 + 1) 23 #[.int .i64 s'', .int .i64 a'', .int .i64 f''] := by
      have k := (Blk.new ((w.alloc (.cells #[.int .i64 s, .int .i64 a, .int .i64 f] 23)).alloc (.cells #[.int .i64 s', .int .i64 a', .int .i64 f'] 23)) 23 #[.int .i64 s'', .int .i64 a'', .int .i64 f'']).below hb1
      rwa [World.size_alloc, World.size_alloc] at k
    refine wpList_store_blk rfl 23 _ _ rfl _ rfl rfl k0 rfl (by kernel_rfl) (by simp [Value.oneCell']) ?_
    intro w2 ho2 kb0
    refine wpList_store_blk rfl 23 _ _ rfl _ rfl rfl (k1.only ho2 (by omega)) rfl (by kernel_rfl) (by simp [Value.oneCell']) ?_
    intro w3 ho3 kb1
    refine wpList_store_blk rfl 23 _ _ rfl _ rfl rfl ((k2.only ho2 (by omega)).only ho3 (by omega)) rfl (by kernel_rfl) (by simp [Value.oneCell']) ?_
    intro w4 ho4 kb2
    have hb4 : Below w.heap.size w w4 := below_only (below_only (below_only (below_box3 hb1) ho2 (by omega)) ho3 (by omega)) ho4 (by omega)
    have g0 := ((kb0.only ho3 (by omega)).only ho4 (by omega)).cell
    have g1 := (kb1.only ho4 (by omega)).cell
    have g2 := kb2.cell
    have hz4 : w.heap.size + 3 ≤ w4.heap.size := by rw [ho4.size, ho3.size, ho2.size]; exact hz1
    clear k0 k1 k2 kb0 kb1 kb2 ho2 ho3 ho4 hc1 hf1 hb1 hz1
    go_wp2_with (first | (go_at_call 9; refine (check_any _ _ _ _).mono ?_; rintro e w1 ⟨rfl, hb1⟩; obtain ⟨hz1, hc1, hf1⟩ := bcellB hb1 (w.heap.size + 3) (by go_size)) | (go_at_call 13; refine (serves_any _ _ _ _ _ _ _).mono ?_; rintro e w1 ⟨rfl, hb1⟩; obtain ⟨hz1, hc1, hf1⟩ := bcellB hb1 (w.heap.size + 3) (by go_size)) | (go_at_call 15; refine (works_any _).mono ?_; rintro e w1 ⟨rfl, hb1⟩; obtain ⟨hz1, hc1, hf1⟩ := bcellB hb1 (w.heap.size + 3) (by go_size)))
    go_ret
    exact ⟨rfl, by (repeat' (first | (with_reducible exact Below.refl _ _) | (with_reducible assumption) | (with_reducible refine Below.alloc ?_ ?_ _) | (with_reducible refine below_drewN ?_ _) | (with_reducible refine Below.drew ?_) | (with_reducible refine Below.setCell ?_ ?_ _) | (with_reducible refine below_two ?_ (by with_reducible assumption)) | go_size))⟩
  cases t2 : servesB (mS s') (mA a') 0 (mS s'') (mA a'') 0
  · go_enter Try.func5, Try.ntmps5
    go_wp2
    (refine wp_region_tail 6 (w.heap.size + 3) ?_ ?_ ?_ ?_ ?_ ?_ ?_; kernel_rfl; kernel_rfl; kernel_rfl; kernel_rfl; kernel_rfl; go_size; intro hxc hxf hxh hxn; simp only [List.take, List.drop]; (repeat (first | go_big_quiet_step (first | (go_at_call 18; exact ext_call (made_m _ _ _ _))) | quiet_step (first | (go_at_call 18; exact ext_call (made_m _ _ _ _))))); refine wpQuiet_nil ?_; intro w1 hs1; clear hxc hxf hxh hxn; obtain ⟨hb1, hz1, hc1, hf1⟩ := ext_known hs1 (w.heap.size + 3) (by go_size); clear hs1)
    have k0 : Blk w1 w.heap.size 23 #[.int .i64 s, .int .i64 a, .int .i64 f] := (((Blk.new w _ _).alloc _).alloc _).below hb1
    have k1 : Blk w1 (w.heap.size + 1) 23 #[.int .i64 s', .int .i64 a', .int .i64 f'] := by
      have k := ((Blk.new (w.alloc (.cells #[.int .i64 s, .int .i64 a, .int .i64 f] 23)) 23 #[.int .i64 s', .int .i64 a', .int .i64 f']).alloc _).below hb1
      rwa [World.size_alloc] at k
    have k2 : Blk w1 (w.heap.size + 1 + 1) 23 #[.int .i64 s'', .int .i64 a'', .int .i64 f''] := by
      have k := (Blk.new ((w.alloc (.cells #[.int .i64 s, .int .i64 a, .int .i64 f] 23)).alloc (.cells #[.int .i64 s', .int .i64 a', .int .i64 f'] 23)) 23 #[.int .i64 s'', .int .i64 a'', .int .i64 f'']).below hb1
      rwa [World.size_alloc, World.size_alloc] at k
    refine wpList_store_blk rfl 23 _ _ rfl _ rfl rfl k0 rfl (by kernel_rfl) (by simp [Value.oneCell']) ?_
    intro w2 ho2 kb0
    refine wpList_store_blk rfl 23 _ _ rfl _ rfl rfl (k1.only ho2 (by omega)) rfl (by kernel_rfl) (by simp [Value.oneCell']) ?_
    intro w3 ho3 kb1
    refine wpList_store_blk rfl 23 _ _ rfl _ rfl rfl ((k2.only ho2 (by omega)).only ho3 (by omega)) rfl (by kernel_rfl) (by simp [Value.oneCell']) ?_
    intro w4 ho4 kb2
    have hb4 : Below w.heap.size w w4 := below_only (below_only (below_only (below_box3 hb1) ho2 (by omega)) ho3 (by omega)) ho4 (by omega)
    have g0 := ((kb0.only ho3 (by omega)).only ho4 (by omega)).cell
    have g1 := (kb1.only ho4 (by omega)).cell
    have g2 := kb2.cell
    have hz4 : w.heap.size + 3 ≤ w4.heap.size := by rw [ho4.size, ho3.size, ho2.size]; exact hz1
    clear k0 k1 k2 kb0 kb1 kb2 ho2 ho3 ho4 hc1 hf1 hb1 hz1
    go_wp2_with (first | (go_at_call 9; refine (check_any _ _ _ _).mono ?_; rintro e w1 ⟨rfl, hb1⟩; obtain ⟨hz1, hc1, hf1⟩ := bcellB hb1 (w.heap.size + 3) (by go_size)) | (go_at_call 13; refine (serves_any _ _ _ _ _ _ _).mono ?_; rintro e w1 ⟨rfl, hb1⟩; obtain ⟨hz1, hc1, hf1⟩ := bcellB hb1 (w.heap.size + 3) (by go_size)) | (go_at_call 15; refine (works_any _).mono ?_; rintro e w1 ⟨rfl, hb1⟩; obtain ⟨hz1, hc1, hf1⟩ := bcellB hb1 (w.heap.size + 3) (by go_size)))
    go_ret
    exact ⟨rfl, by (repeat' (first | (with_reducible exact Below.refl _ _) | (with_reducible assumption) | (with_reducible refine Below.alloc ?_ ?_ _) | (with_reducible refine below_drewN ?_ _) | (with_reducible refine Below.drew ?_) | (with_reducible refine Below.setCell ?_ ?_ _) | (with_reducible refine below_two ?_ (by with_reducible assumption)) | go_size))⟩
  · have o3 := serves_trans t1 t2
    go_enter Try.func5, Try.ntmps5
    go_wp2
    (refine wp_region_tail 6 (w.heap.size + 3) ?_ ?_ ?_ ?_ ?_ ?_ ?_; kernel_rfl; kernel_rfl; kernel_rfl; kernel_rfl; kernel_rfl; go_size; intro hxc hxf hxh hxn; simp only [List.take, List.drop]; (repeat (first | go_big_quiet_step (first | (go_at_call 18; exact ext_call (made_m _ _ _ _))) | quiet_step (first | (go_at_call 18; exact ext_call (made_m _ _ _ _))))); refine wpQuiet_nil ?_; intro w1 hs1; clear hxc hxf hxh hxn; obtain ⟨hb1, hz1, hc1, hf1⟩ := ext_known hs1 (w.heap.size + 3) (by go_size); clear hs1)
    have k0 : Blk w1 w.heap.size 23 #[.int .i64 s, .int .i64 a, .int .i64 f] := (((Blk.new w _ _).alloc _).alloc _).below hb1
    have k1 : Blk w1 (w.heap.size + 1) 23 #[.int .i64 s', .int .i64 a', .int .i64 f'] := by
      have k := ((Blk.new (w.alloc (.cells #[.int .i64 s, .int .i64 a, .int .i64 f] 23)) 23 #[.int .i64 s', .int .i64 a', .int .i64 f']).alloc _).below hb1
      rwa [World.size_alloc] at k
    have k2 : Blk w1 (w.heap.size + 1 + 1) 23 #[.int .i64 s'', .int .i64 a'', .int .i64 f''] := by
      have k := (Blk.new ((w.alloc (.cells #[.int .i64 s, .int .i64 a, .int .i64 f] 23)).alloc (.cells #[.int .i64 s', .int .i64 a', .int .i64 f'] 23)) 23 #[.int .i64 s'', .int .i64 a'', .int .i64 f'']).below hb1
      rwa [World.size_alloc, World.size_alloc] at k
    refine wpList_store_blk rfl 23 _ _ rfl _ rfl rfl k0 rfl (by kernel_rfl) (by simp [Value.oneCell']) ?_
    intro w2 ho2 kb0
    refine wpList_store_blk rfl 23 _ _ rfl _ rfl rfl (k1.only ho2 (by omega)) rfl (by kernel_rfl) (by simp [Value.oneCell']) ?_
    intro w3 ho3 kb1
    refine wpList_store_blk rfl 23 _ _ rfl _ rfl rfl ((k2.only ho2 (by omega)).only ho3 (by omega)) rfl (by kernel_rfl) (by simp [Value.oneCell']) ?_
    intro w4 ho4 kb2
    have hb4 : Below w.heap.size w w4 := below_only (below_only (below_only (below_box3 hb1) ho2 (by omega)) ho3 (by omega)) ho4 (by omega)
    have g0 := ((kb0.only ho3 (by omega)).only ho4 (by omega)).cell
    have g1 := (kb1.only ho4 (by omega)).cell
    have g2 := kb2.cell
    have hz4 : w.heap.size + 3 ≤ w4.heap.size := by rw [ho4.size, ho3.size, ho2.size]; exact hz1
    clear k0 k1 k2 kb0 kb1 kb2 ho2 ho3 ho4 hc1 hf1 hb1 hz1
    go_wp2_with (first | (go_at_call 9; refine (check_any _ _ _ _).mono ?_; rintro e w1 ⟨rfl, hb1⟩; obtain ⟨hz1, hc1, hf1⟩ := bcellB hb1 (w.heap.size + 3) (by go_size)) | (go_at_call 13; refine (serves_any _ _ _ _ _ _ _).mono ?_; rintro e w1 ⟨rfl, hb1⟩; obtain ⟨hz1, hc1, hf1⟩ := bcellB hb1 (w.heap.size + 3) (by go_size)) | (go_at_call 15; refine (works_any _).mono ?_; rintro e w1 ⟨rfl, hb1⟩; obtain ⟨hz1, hc1, hf1⟩ := bcellB hb1 (w.heap.size + 3) (by go_size)))
    go_ret
    exact ⟨rfl, by (repeat' (first | (with_reducible exact Below.refl _ _) | (with_reducible assumption) | (with_reducible refine Below.alloc ?_ ?_ _) | (with_reducible refine below_drewN ?_ _) | (with_reducible refine Below.drew ?_) | (with_reducible refine Below.setCell ?_ ?_ _) | (with_reducible refine below_two ?_ (by with_reducible assumption)) | go_size))⟩

end Go.Proofs.Ytmmfghialjmgmaa
