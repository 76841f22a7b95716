/-
  The walks of bits.Mul of 1 and a small number, bytes.Repeat of one byte.
-/
import Derived.Test.YtindgcbnpbhciaaRows
import Derived.Test.YtindgcbnpbhciaaPlain
import Derived.Test.YtindgcbnpbhciaaReads
import Derived.Test.YtindgcbnpbhciaaOpenRow
import Derived.Test.YtindgcbnpbhciaaStore
import Derived.Lib.MakeNoZero
import Derived.Laws.Externs
import Derived.Laws.CopyOwn
import Derived.Deep.RegionLaw
import Derived.Deep.RegionHeld3
import Derived.Lib.MinMax
import Derived.IntWalk
import Derived.WalkKit
import Derived.Deep.DeepMust
import Derived.WalkSpells
import Derived.WalkLawsBesides
import Derived.Handy
import Derived.Lib.Hide
import Derived.Deep.QuietTactic
import Derived.BigQuiet
namespace Go.Proofs.Ytindgcbnpbhciaa
open Go.RowKit

theorem and_mask : ∀ n : Fin 1025, bits BinOp.and IntKind.u64 ((n : Nat) : Int) 4294967295 = ((n : Nat) : Int) := by decide +kernel
theorem mul64_one (n : Nat) (hn : n ≤ 1024) (w : World) : Calls Try.prog 32 #[.int .u64 1, .int .u64 (n : Int)] w fun e w' => e = .returned (.tuple #[.int .u64 0, .int .u64 (n : Int)]) ∧ w' = w := by
  have b1 : bits BinOp.and IntKind.u64 1 4294967295 = 1 := by decide +kernel
  have b2 : bits BinOp.and IntKind.u64 (n : Int) 4294967295 = (n : Int) := and_mask ⟨n, by omega⟩
  have b3 : bits BinOp.and IntKind.u64 0 4294967295 = 0 := by decide +kernel
  have d1 : (n : Int) / 4294967296 = 0 := by omega
  have w1 : IntKind.u64.wrap (n : Int) = (n : Int) := by rw [IntKind.wrap_u64]; omega
  go_enter Try.func32, Try.ntmps32
  go_wp2
  go_ret2
  exact ⟨by simp, rfl⟩
theorem mul_one (n : Nat) (hn : n ≤ 1024) (w : World) : Calls Try.prog 28 #[.int .u64 1, .int .u64 (n : Int)] w fun e w' => e = .returned (.tuple #[.int .u64 0, .int .u64 (n : Int)]) ∧ w' = w := by
  go_enter Try.func28, Try.ntmps28
  go_wp2_with (first | (go_at_call 32; (with_reducible refine (mul64_one n hn _).mono ?_); rintro e w0 ⟨rfl, hw0⟩; replace hw0 := hw0.symm; subst hw0))
  go_ret2
  exact ⟨rfl, rfl⟩

abbrev bV (l : List Int) : List Value := l.map (Value.int .u8)
theorem bV_len (l : List Int) : (bV l).length = l.length := List.length_map _
theorem bV_at {l : List Int} {k : Nat} (h : k < l.length) : (bV l)[k]? = some (.int .u8 l[k]) := by simp [h]
theorem bV_one (l : List Int) : ∀ u ∈ bV l, u.oneCell' = true := fun u hu => by
  obtain ⟨x, -, rfl⟩ := List.mem_map.1 hu
  rfl
/-- What a call hands back in memory of its own: these bytes. -/
def Gives (w : World) (l : List Int) (n : Nat) (e : Ending) (w' : World) : Prop := ∃ A c, e = .returned (.slice A n c) ∧ Row w' A (bV l) ∧ Below w.heap.size w w'

theorem repeat_zero (w : World) (g off c : Nat) (n : Nat) (hn : n = 0) (v : Int) : Calls Try.prog 26 #[.slice (some ⟨g, off, none⟩) 1 c, .int .i64 (n : Int)] w (Gives w (List.replicate n v) n) := by
  subst hn
  go_enter Try.func26, Try.ntmps26
  go_wp2
  go_ret
  exact ⟨_, _, rfl, Row.nil _ _, by (repeat' (first | (with_reducible exact Below.refl _ _) | (with_reducible assumption) | (with_reducible refine Below.alloc ?_ ?_ _) | (with_reducible refine below_drewN ?_ _) | (with_reducible refine Below.drew ?_) | (with_reducible refine Below.setCell ?_ ?_ _) | (with_reducible refine below_two ?_ (by with_reducible assumption)) | go_size))⟩

theorem splice_rep {v : Value} {cur : List Value} {bp m : Nat} (h : ∀ j, j < bp → cur[j]? = some v) (hf : bp + m ≤ cur.length) :
    (splice cur bp (List.replicate m v)).length = cur.length ∧ ∀ j, j < bp + m → (splice cur bp (List.replicate m v))[j]? = some v := by
  unfold splice
  constructor
  · simp only [List.length_append, List.length_take, List.length_replicate, List.length_drop]
    omega
  · intro j hj
    by_cases h1 : j < bp
    · rw [List.getElem?_append_left (by rw [List.length_take]; omega), List.getElem?_take_of_lt h1]
      exact h j h1
    · rw [List.getElem?_append_right (by rw [List.length_take]; omega), List.getElem?_append_left (by rw [List.length_take, List.length_replicate]; omega), List.getElem?_replicate, if_pos (by rw [List.length_take]; omega)]

set_option maxHeartbeats 2000000 in
theorem repeat_pos (w : World) (g off c : Nat) (n : Nat) (h0 : 0 < n) (hn : n ≤ 1024) (v : Int) (hg : w.cell? ⟨g, off, none⟩ = some (.int .u8 v)) : Calls Try.prog 26 #[.slice (some ⟨g, off, none⟩) 1 c, .int .i64 (n : Int)] w (Gives w (List.replicate n v) n) := by
  obtain ⟨cs, hrun, hle, hmax⟩ := Lib.run_makeNoZero (P := Try.prog) w #[3] 22 5 Try.underlying22 n (by omega)
  have hcall : (callFunc 29 #[.int .i64 (n : Int)]).run Try.prog w = .ok (.value (.slice (some ⟨w.heap.size, 0, none⟩) n cs.size)) (w.drew.drew.alloc (.cells cs 5)) := by
    rw [run_callFunc_extern Try.func29 (by kernel_rfl) (by kernel_rfl) (by kernel_rfl) (e := Extern.BytealgMakeNoZero.makeNoZero #[3] #[22]) (by kernel_rfl), hrun]
    rfl
  have HM := Lib.hid hmax
  have hgl := World.block_lt_of_cell? w _ hg
  have HG := Lib.hid hg
  obtain ⟨C, hC⟩ : ∃ C, Hid (cs.size = C) := ⟨_, Lib.hid rfl⟩
  have hle' : n ≤ C := by rw [← hC.out]; exact hle
  rw [hC.out] at hcall
  have n0 : ((n : Int) == 0) = false := beq_eq_false_iff_ne.2 (by omega)
  have n1 : (0 : Int) ≤ (n : Int) := by omega
  have n2 : (n : Int) ≤ (C : Int) := by omega
  have n3 : (n : Int) ≤ 1024 := by omega
  have t1 : decide ((n : Int) < 0) = false := decide_eq_false (by omega)
  have t2 : decide (8192 < (n : Int)) = false := decide_eq_false (by omega)
  have t3 : decide (9223372036854775807 < (n : Int)) = false := decide_eq_false (by omega)
  clear hrun hmax hle hg
  go_enter Try.func26, Try.ntmps26
  have HB := Lib.hid (show ((w.alloc (.cells cs 5)).drew.drew).heap[w.heap.size]? = some (.cells cs.toList.toArray 5 (0, 0)) by rw [Array.toArray_toList]; exact Blk.new w 5 cs)
  have HS : Hid (∀ j u, ([.int .u8 v] : List Value)[j]? = some u → ((w.alloc (.cells cs 5)).drew.drew).cell? ((⟨g, off, none⟩ : Addr).add j) = some u) := Lib.hid (fun j u hu => by
    have hj : j = 0 := by
      rcases Nat.eq_zero_or_pos j with h | h
      · exact h
      · rw [List.getElem?_eq_none (by simp; omega)] at hu; cases hu
    subst hj
    simp only [List.getElem?_cons_zero, Option.some.injEq] at hu
    subst hu
    exact (World.cell?_alloc_lt w _ ⟨g, off, none⟩ hgl).trans HG.out)
  have HMin : Hid (([.int .u8 v] : List Value).length = Nat.min 1 n) := Lib.hid (by rw [show Nat.min 1 n = 1 from Nat.min_eq_left (by omega)]; rfl)
  have HFit : Hid (0 + ([.int .u8 v] : List Value).length ≤ cs.toList.length) := Lib.hid (by show 0 + 1 ≤ cs.toList.length; rw [Array.length_toList, hC.out]; omega)
  go_wp2_with (first | (go_at_call 28; (with_reducible refine (mul_one n hn _).mono ?_); rintro e w0 ⟨rfl, hw0⟩; replace hw0 := hw0.symm; subst hw0) | (refine wpList_copy_splice rfl (.tmp 58) (.tmp 59) 22 22 rfl 5 Try.underlying22 (by kernel_rfl) _ _ n n 1 c rfl rfl w.heap.size 0 cs.toList 5 HB.out [.int .u8 v] HMin.out (fun _ => ⟨rfl, _, rfl, HS.out⟩) HFit.out (fun u hu => by simp at hu; subst hu; rfl) w.heap.size w (by (repeat' (first | (with_reducible exact Below.refl _ _) | (with_reducible assumption) | (with_reducible refine Below.alloc ?_ ?_ _) | (with_reducible refine below_drewN ?_ _) | (with_reducible refine Below.drew ?_) | (with_reducible refine Below.setCell ?_ ?_ _) | (with_reducible refine below_two ?_ (by with_reducible assumption)) | go_size))) (Nat.le_refl _) ?_; intro w2 HG2 hb2))
  clear hcall HB HS HMin HFit HM
  go_loopw [10, 11] (fun q _ wr => ∃ (bp : Nat) (cur : List Value), 1 ≤ bp ∧ bp ≤ n ∧ q = .int .i64 (bp : Int) ∧ Hid (cur.length = C) ∧ Hid (∀ j, j < bp → cur[j]? = some (.int .u8 v)) ∧ Hid (wr.heap[w.heap.size]? = some (.cells cur.toArray 5 (0, 0))) ∧ Below w.heap.size w wr) (fun q _ _ => n - (intOf q).toNat)
  case atStart =>
    have h1 := splice_rep (v := .int .u8 v) (cur := cs.toList) (bp := 0) (m := 1) (fun j hj => absurd hj (Nat.not_lt_zero j)) (by rw [Array.length_toList, hC.out]; omega)
    exact ⟨1, _, by omega, by omega, rfl, Lib.hid (h1.1.trans (by rw [Array.length_toList, hC.out])), Lib.hid h1.2, HG2, hb2⟩
  case round =>
    clear HG2 hb2
    obtain ⟨bp, cur, hbp0, hbp, rfl, HL, HV, HB, hw⟩ := hrel
    have hzw := hw.size
    by_cases hlt : bp < n
    · obtain ⟨m, hm⟩ : ∃ m, Nat.min bp (n - bp) = m := ⟨_, rfl⟩
      have hm' : m = min bp (n - bp) := hm.symm
      have hm1 : 1 ≤ m := by omega
      have hm2 : bp + m ≤ n := by omega
      have hm3 : m ≤ bp := by omega
      have HMin : Hid ((List.replicate m (.int .u8 v) : List Value).length = Nat.min bp (n - bp)) := Lib.hid (by rw [List.length_replicate]; exact hm.symm)
      have HFit : Hid (bp + (List.replicate m (.int .u8 v) : List Value).length ≤ cur.length) := Lib.hid (by rw [List.length_replicate, HL.out]; omega)
      have HS : Hid (∀ (wx : World), wx.heap[w.heap.size]? = some (.cells cur.toArray 5 (0, 0)) → ∀ j u, (List.replicate m (.int .u8 v) : List Value)[j]? = some u → wx.cell? ((⟨w.heap.size, 0, none⟩ : Addr).add j) = some u) := Lib.hid (fun wx hx j u hu => by
        rw [List.getElem?_replicate] at hu
        split at hu
        · rename_i hj
          obtain rfl := Option.some.inj hu
          rw [addr_add, Nat.zero_add, show wx.cell? ⟨w.heap.size, j, none⟩ = cur.toArray[j]? from Blk.cell (t := 5) hx j]
          simpa using HV.out j (by omega)
        · cases hu)
      have HN := Lib.hid (splice_rep (m := m) HV.out (by rw [HL.out]; omega))
      have j0 : (0 : Int) ≤ (bp : Int) := by omega
      have j1 : (bp : Int) < (n : Int) := by omega
      have j2 : (bp : Int) ≤ (n : Int) := by omega
      have mn : min (bp : Int) (n : Int) = (bp : Int) := by omega
      have hwr : IntKind.i64.wrap ((bp : Int) + (m : Int)) = (bp : Int) + (m : Int) := IntWalk.i64_in _ (by omega)
      have HOne : Hid (∀ u ∈ (List.replicate m (.int .u8 v) : List Value), u.oneCell' = true) := Lib.hid (fun u hu => by rw [(List.mem_replicate.1 hu).2]; rfl)
      have hnb : ¬ n = bp := by omega
      clear hm hm'
      go_wp2
      go_region_law (refine step_copy_splice rfl (.tmp 70) (.tmp 73) 22 22 rfl 5 Try.underlying22 (by kernel_rfl) (some ⟨w.heap.size, bp, none⟩) (some ⟨w.heap.size, 0, none⟩) (n - bp) (n - bp) bp n (by simp [Act.eval, Act.put]) (by simp [Act.eval, Act.put]) w.heap.size bp cur 5 HB.out (List.replicate m (.int .u8 v)) HMin.out (fun _ => ⟨rfl, _, rfl, HS.out _ HB.out⟩) HFit.out HOne.out w.heap.size w (by (repeat' (first | (with_reducible exact Below.refl _ _) | (with_reducible assumption) | (with_reducible refine Below.alloc ?_ ?_ _) | (with_reducible refine below_drewN ?_ _) | (with_reducible refine Below.drew ?_) | (with_reducible refine Below.setCell ?_ ?_ _) | (with_reducible refine below_two ?_ (by with_reducible assumption)) | go_size))) (Nat.le_refl _) ?_; intro w4 hg4 hb4)
      clear hwr mn HMin HFit HS HOne hnb
      go_wp2
      simp [Act.put]
      go_roundw
      case rel => exact ⟨bp + m, by omega, by omega, by omega, splice cur bp (List.replicate m (.int .u8 v)), Lib.hid (HN.out.1.trans HL.out), Lib.hid HN.out.2, hg4, hb4⟩
      case measure => simp [intOf]; omega
    · have hbn : bp = n := by omega
      have hR : Row wr (some ⟨w.heap.size, 0, none⟩) (bV (List.replicate n v)) := fun _ =>
        ⟨w.heap.size, 0, rfl, Blk.lt (t := 5) HB.out, fun j u hu => by
          rw [Nat.zero_add, show wr.cell? ⟨w.heap.size, j, none⟩ = cur.toArray[j]? from Blk.cell (t := 5) HB.out j]
          unfold bV at hu
          rw [List.map_replicate, List.getElem?_replicate] at hu
          split at hu
          · rename_i hj
            rw [← hu]
            simpa using HV.out j (by omega)
          · cases hu⟩
      have HR := Lib.hid hR
      clear hbn hR
      go_wp2
      go_ret
      exact ⟨_, _, rfl, HR.out, hw⟩

theorem repeat_any (w : World) (g off c : Nat) (n : Nat) (hn : n ≤ 1024) (v : Int) (hg : w.cell? ⟨g, off, none⟩ = some (.int .u8 v)) (z : Int) (hz : (n : Int) = z) : Calls Try.prog 26 #[.slice (some ⟨g, off, none⟩) 1 c, .int .i64 z] w (Gives w (List.replicate n v) n) := by
  subst hz
  rcases Nat.eq_zero_or_pos n with h0 | h0
  · exact repeat_zero w g off c n h0 v
  · exact repeat_pos w g off c n h0 hn v hg

end Go.Proofs.Ytindgcbnpbhciaa
