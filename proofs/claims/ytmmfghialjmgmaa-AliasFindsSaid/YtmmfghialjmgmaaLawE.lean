/-
  The walk of AliasFinds.
-/
import Derived.Test.YtmmfghialjmgmaaLawD
namespace Go.Proofs.Ytmmfghialjmgmaa
open Go.RowKit

theorem refFind_eq (l : List Sp) (y : Sp) (n i : Nat) (is : Bool) (A : Option Addr) (c : Nat) (w : World) (hn : l.length = n) (hm : n ≤ 9223372036854775807) (hf : findIx y l 0 = (i, is)) (hA : 0 < n → ∃ b off, A = some ⟨b, off, none⟩ ∧ b < w.heap.size ∧ SpAt w b off l) :
    Calls Try.prog 17 #[.slice A n c, .agg #[.int .i64 y.s, .int .i64 y.a, .int .i64 y.f]] w fun e w' =>
      e = .returned (.tuple #[.int .i64 i, .bool is]) ∧ Below w.heap.size w w' := by
  subst hn
  have h := refFind_any l y A c w hm hA
  rw [hf] at h
  exact h

/-- The specs of a list lie where a slice says, if there are any. -/
def SpX (w : World) (A : Option Addr) (l : List Sp) : Prop := 0 < l.length → ∃ b off, A = some ⟨b, off, none⟩ ∧ b < w.heap.size ∧ SpAt w b off l
theorem SpX.below {w w' : World} {A : Option Addr} {l : List Sp} (h : SpX w A l) (hb : Below w.heap.size w w') : SpX w' A l := fun hp => by
  obtain ⟨b, off, hA, hlt, hs⟩ := h hp
  exact ⟨b, off, hA, Nat.lt_of_lt_of_le hlt hb.size, hs.below hb⟩
theorem SpX.alloc {w : World} {A : Option Addr} {l : List Sp} (h : SpX w A l) (o : Obj) : SpX (w.alloc o) A l := h.below ((Below.refl _ _).alloc (Nat.le_refl _) o)

theorem info23 : (Try.prog.info? 23).map (fun i => (i.zero, i.size, i.bytes)) = some (some (.agg #[.int .i64 0, .int .i64 0, .int .i64 0]), 3, 24) := by kernel_rfl

theorem afinds_any (l : List Sp) (y : Sp) (A : Option Addr) (c : Nat) (w : World) (hr : l.length * 24 ≤ 140737488355328) (hA : 0 < l.length → ∃ b off, A = some ⟨b, off, none⟩ ∧ b < w.heap.size ∧ SpAt w b off l) :
    Calls Try.prog 4 #[.slice A l.length c, .agg #[.int .i64 y.s, .int .i64 y.a, .int .i64 y.f]] w fun e w' =>
      e = .returned (.bool true) ∧ Below w.heap.size w w' := by
  obtain ⟨i, is, hfi⟩ : ∃ i is, findIx y l 0 = (i, is) := ⟨_, _, rfl⟩
  obtain ⟨i0, hi0, hz0, hz1, hz2⟩ := info_parts info23
  have hm : l.length ≤ 9223372036854775807 := by omega
  have HF := Lib.hid hfi
  clear hfi
  have HI := Lib.hid hi0; clear hi0
  have HZ0 := Lib.hid hz0; clear hz0
  have HZ1 := Lib.hid hz1; clear hz1
  have HZ2 := Lib.hid hz2; clear hz2
  have hrd : Reads (w.alloc (.cells #[.int .i64 y.s, .int .i64 y.a, .int .i64 y.f] 23)) w.heap.size 3 A l.length (flat l) := by
    rcases Nat.eq_zero_or_pos l.length with h0 | hp
    · obtain rfl := List.eq_nil_of_length_eq_zero h0
      exact ⟨rfl, fun h => absurd h (Nat.lt_irrefl 0)⟩
    · obtain ⟨b, off, rfl, hb, hl⟩ := hA hp
      exact (reads_of_sp hb hl).alloc (Nat.le_refl _) _
  go_enter Try.func4, Try.ntmps4
  go_wp2_with (at_builtin; refine wpList_append_any _ rfl (.tmp 11) (.tmp 12) 29 rfl (w.heap.size + 1) 23 i0 _ 3 24 Try.underlying29 HI.out HZ0.out HZ1.out HZ2.out rfl (by omega) (.slice none 0 0) 0 [] rfl (World.ownsRow_nil _ _ _ _) w.heap.size A l.length c (flat l) rfl hrd (flat_one l) (by simp only [maxLen]; omega) (by omega) (by simp) ?_; intro v1 w1 hown1 hg1 hat1; have hb1 : Below (w.alloc (.cells #[.int .i64 y.s, .int .i64 y.a, .int .i64 y.f] 23)).heap.size (w.alloc (.cells #[.int .i64 y.s, .int .i64 y.a, .int .i64 y.f] 23)) w1 := (Below.refl _ _).grown hg1 (Nat.le_refl _) (by simp [Value.ownBlock]); obtain ⟨hz1, hc1, hf1⟩ := bcellB hb1 (w.heap.size + 1) (by go_size); obtain ⟨A1, c1, hv1, hA1⟩ := own_sp (by omega) hown1; subst hv1; have X1 : SpX w1 A1 l := fun hp => (by obtain ⟨b, off, k1, _, k2, k3⟩ := hA1 (by omega); exact ⟨b, off, k1, k2, k3⟩); have X0 : SpX w1 A l := (SpX.alloc (show SpX w A l from hA) _).below hb1; clear hA1 hown1 hg1 hat1 hA hrd)
  go_wp2_with fail
  refine (find_eq l y l.length i is A1 c1 w1 rfl hm HF.out X1).mono ?_
  rintro e w2 ⟨rfl, hb2⟩
  obtain ⟨hz2, hc2, hf2⟩ := bcellB hb2 (w.heap.size + 1) hz1
  replace X1 := X1.below hb2
  replace X0 := X0.below hb2
  go_wp2_with fail
  refine (refFind_eq l y l.length i is A c w2 rfl hm HF.out X0).mono ?_
  rintro e w3 ⟨rfl, hb3⟩
  obtain ⟨hz3, hc3, hf3⟩ := bcellB hb3 (w.heap.size + 1) hz2
  replace X1 := X1.below hb3
  replace X0 := X0.below hb3
  go_wp2_with fail
  go_loopw [10] (fun j wr => ∃ k : Nat, k ≤ l.length ∧ j = .int .i64 k ∧ Below w3.heap.size w3 wr) (fun j _ => l.length - (intOf j).toNat)
  case atStart => exact ⟨0, Nat.zero_le _, rfl, Below.refl _ _⟩
  case round =>
    obtain ⟨k, hk, rfl, hw⟩ := hrel
    obtain ⟨hsz, hcw, hfw⟩ := bcellB hw w3.heap.size (Nat.le_refl _)
    by_cases hlt' : k < l.length
    · obtain ⟨b, off, rfl, hb, hl⟩ := X0 (by omega)
      obtain ⟨b', off', rfl, hb', hl'⟩ := X1 (by omega)
      obtain ⟨c0, c1, c2⟩ := hl k hlt'
      obtain ⟨d0, d1, d2⟩ := hl' k hlt'
      clear hl hl'
      go_wp2
      (refine wp_region_ext (w3.heap.size) (by kernel_rfl) (by kernel_rfl) (by go_size) (fun hxc hxf hxh hxn => ?_); (repeat (first | go_big_quiet_step (fail) | quiet_step (fail))); refine wpQuiet_nil ?_; intro w1 hs1; clear hxc hxf hxh hxn; obtain ⟨hb1, hz1, hc1, hf1⟩ := ext_known hs1 (w3.heap.size) (by go_size); clear hs1)
      go_wp2
      go_roundw
      case rel => exact ⟨k + 1, by omega, by go_num, by (repeat' (first | (with_reducible exact Below.refl _ _) | (with_reducible assumption) | (with_reducible refine Below.alloc ?_ ?_ _) | (with_reducible refine below_drewN ?_ _) | (with_reducible refine Below.drew ?_) | (with_reducible refine Below.setCell ?_ ?_ _) | (with_reducible refine below_two ?_ (by with_reducible assumption)) | go_size))⟩
      case measure => simp [intOf]; omega
    · go_wp2_with (first | (go_at_call 15; refine (works_any _).mono ?_; rintro e w4 ⟨rfl, hb4⟩; obtain ⟨hz4, hc4, hf4⟩ := bcellB hb4 (w3.heap.size) (by go_size)))
      go_ret
      exact ⟨rfl, by (repeat' (first | (with_reducible exact Below.refl _ _) | (with_reducible assumption) | (with_reducible refine Below.alloc ?_ ?_ _) | (with_reducible refine below_drewN ?_ _) | (with_reducible refine Below.drew ?_) | (with_reducible refine Below.setCell ?_ ?_ _) | (with_reducible refine below_two ?_ (by with_reducible assumption)) | go_size))⟩

end Go.Proofs.Ytmmfghialjmgmaa
