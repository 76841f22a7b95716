/-
  The walk of List.
-/
import Derived.Test.YtklhlhfplkmpmaaWalkB
import Derived.Test.YtklhlhfplkmpmaaPlainB
import Derived.Test.YtklhlhfplkmpmaaEqInts
import Derived.Test.YtklhlhfplkmpmaaCopyInts
import Derived.Test.YtklhlhfplkmpmaaStore
import Derived.Maps.AppendAt
import Derived.OwnWalk
import Derived.OneCell
import Derived.Outline
import Derived.Deep.LoopGhost
namespace Go.Proofs.Ytklhlhfplkmpmaa
open Go.RowKit

theorem Try.info3 : (Try.prog.info? 3).map (fun i => (i.zero, i.size, i.bytes)) = some (some (.int .i64 0), 1, 8) := by kernel_rfl

abbrev natV (l : List Nat) : List Value := l.map fun (n : Nat) => Value.int .i64 (n : Int)
abbrev wordV (l : List Nat) : List Value := l.map fun (n : Nat) => Value.int .u64 (n : Int)
def hadC (out : List Nat) : Array Value := ((List.range 16).map fun i => Value.bool (decide (i ∈ out))).toArray
theorem hadC_nil : hadC [] = #[.bool false, .bool false, .bool false, .bool false, .bool false, .bool false, .bool false, .bool false, .bool false, .bool false, .bool false, .bool false, .bool false, .bool false, .bool false, .bool false] := by rfl
theorem hadC_at {out : List Nat} {i : Nat} (h : i < 16) : (hadC out)[i]? = some (.bool (decide (i ∈ out))) := by
  unfold hadC
  rw [List.getElem?_toArray, List.getElem?_map, List.getElem?_range h]
  rfl
theorem hadC_set {out : List Nat} {i : Nat} (h : i < 16) : (hadC out).setIfInBounds i (.bool true) = hadC (out ++ [i]) := by
  apply Array.ext_getElem?
  intro j
  have hs : (hadC out).size = 16 := by simp [hadC]
  rw [Array.getElem?_setIfInBounds]
  by_cases hij : i = j
  · subst hij
    rw [if_pos rfl, if_pos (by omega), hadC_at h]
    simp
  · rw [if_neg hij]
    rcases Nat.lt_or_ge j 16 with hj | hj
    · rw [hadC_at hj, hadC_at hj]
      have : (j ∈ out ++ [i]) ↔ j ∈ out := by
        rw [List.mem_append, List.mem_singleton]
        exact ⟨fun h => h.elim id (fun e => absurd e.symm hij), Or.inl⟩
      simp only [this]
    · rw [Array.getElem?_eq_none (by omega), Array.getElem?_eq_none (by simp [hadC]; omega)]

/-- What List leaves: a row of its own, and the error. -/
def ListPost (w : World) (R : List Nat × Int) (e : Ending) (w' : World) : Prop :=
  ∃ v, e = .returned (.tuple #[v, .int .i64 R.2]) ∧ w'.ownsRow w.heap.size 3 1 v R.1.length (natV R.1) ∧ Below w.heap.size w w'

def ListRel (w : World) (ws : List Nat) (key : Nat) (R : List Nat × Int) (s v : Value) (wr : World) : Prop :=
  ∃ (out : List Nat) (f : Int), s = .int .i64 f ∧ Inv ws out f ∧ Hid (runL ws key (17 - out.length) out f = R) ∧ wr.ownsRow (w.heap.size + 1) 3 1 v out.length (natV out) ∧ Blk wr w.heap.size 47 (hadC out) ∧ Below w.heap.size w wr

theorem word_at {ws : List Nat} {i : Nat} (h : i < ws.length) : (wordV ws)[i]? = some (.int .u64 (ws[i] : Nat)) := by simp [h]

theorem own_le {w : World} {base base' : Nat} {e : TypeId} {size : Nat} {v : Value} {n : Nat} {xs : List Value} (h : w.ownsRow base e size v n xs) (hb : base' ≤ base) : w.ownsRow base' e size v n xs := by
  obtain ⟨h1, h2⟩ := h
  refine ⟨h1, ?_⟩
  rcases h2 with h2 | ⟨g, cap, cur, h3, h4, h5⟩
  · exact Or.inl h2
  · exact Or.inr ⟨g, cap, cur, h3, Nat.le_trans hb h4, h5⟩
def lenOf (v : Value) : Nat := match v with | .slice _ n _ => n | _ => 0
theorem blk_grown {w w' : World} {g : Nat} {t : TypeId} {cs : Array Value} {row : Option Nat} (h : Blk w g t cs) (hg : w.grownBy w' row) (hr : row ≠ some g) : Blk w' g t cs := (hg.block g h.lt (fun e => hr e.symm)).trans h
theorem own_ne {w : World} {base : Nat} {e : TypeId} {size : Nat} {v : Value} {n : Nat} {xs : List Value} (h : w.ownsRow base e size v n xs) {g : Nat} (hg : g < base) : v.ownBlock ≠ some g := fun e => by
  have := (h.lt g e).1
  omega

theorem one_news (w w' : World) (x : Value) (t : TypeId) (hz : w'.heap.size = w.heap.size) : ∀ j u, [x][j]? = some u → (w'.alloc (.cells #[x] t)).cell? ((⟨w.heap.size, 0, none⟩ : Addr).add j) = some u := by
  have := cell_one_new w' x t
  rwa [hz] at this

set_option maxHeartbeats 2000000 in
theorem list_ok (ws : List Nat) (key : Nat) (first : Int) (A0 : Option Addr) (c : Nat) (w : World) (hk : key < 18446744073709551616) (hws : ∀ x ∈ ws, x < 18446744073709551616) (hok : okL ws first = true) (hA : Row w A0 (wordV ws)) :
    Calls Try.prog 15 #[.slice A0 ws.length c, .int .u64 key, .int .i64 first] w (ListPost w (runL ws key 17 [] first)) := by
  obtain ⟨R, hR⟩ : ∃ R, runL ws key 17 [] first = R := ⟨_, rfl⟩
  rw [hR]
  have HR := Lib.hid hR
  have HA := Lib.hid hA
  have HW := Lib.hid hws
  have hi0 := Inv.start hok
  have h1 := hi0.len
  have h2 := hi0.lo
  have h3 := hi0.hi
  obtain ⟨i0, hi, hz0, hz1, hz2⟩ := info_parts Try.info3
  have I0 := Lib.hid hi
  have I1 := Lib.hid hz0
  have I2 := Lib.hid hz1
  have I3 := Lib.hid hz2
  clear hR hA hws hok hi hz0 hz1 hz2
  go_enter Try.func15, Try.ntmps15
  go_wp2
  go_step3
  go_wp2
  go_step3
  go_wp2
  go_loopw [2, 9] (ListRel w ws key R) (fun _ v _ => 16 - lenOf v)
  case atStart => exact ⟨[], first, rfl, hi0, HR, World.ownsRow_nil _ _ _ _, by rw [hadC_nil]; exact Blk.new w 47 _, by (repeat' (first | (with_reducible exact Below.refl _ _) | (with_reducible assumption) | (with_reducible refine Below.alloc ?_ ?_ _) | (with_reducible refine below_drewN ?_ _) | (with_reducible refine Below.drew ?_) | (with_reducible refine Below.setCell ?_ ?_ _) | (with_reducible refine below_two ?_ (by with_reducible assumption)) | go_size))⟩
  case round =>
    obtain ⟨out, f, rfl, hI, HK, hown, hB, hw⟩ := hrel
    have hz := hw.size
    have hle := hI.le
    have hlo := hI.lo
    have hhi := hI.hi
    have n1 := hB.lt
    obtain ⟨A, cp, rfl, hrow⟩ := Row.slice hown
    obtain ⟨m, hm⟩ : ∃ m, 17 - out.length = m + 1 := ⟨16 - out.length, by omega⟩
    by_cases hf : f = -1
    · subst hf
      have HN : Hid ((out, (0 : Int)) = R) := Lib.hid (by rw [← HK.out, hm, runL_end])
      clear hm
      go_wp2
      go_ret2
      exact ⟨_, by rw [← HN.out]; rfl, by rw [← HN.out]; exact own_le hown (by omega), hw⟩
    · obtain ⟨i, rfl⟩ := Int.eq_ofNat_of_zero_le (show 0 ≤ f by omega)
      have j0 : (0 : Int) ≤ (i : Int) := by omega
      have j1 : (i : Int) < 16 := by omega
      have j2 : (i : Int) < (ws.length : Int) := hhi
      have hi16 : i < 16 := by omega
      have hil : i < ws.length := by omega
      have cH := (hB.cell i).trans (hadC_at hi16)
      have dH := hB.frozen i
      by_cases hmem : i ∈ out
      · have HN : Hid (([], (150 : Int)) = R) := Lib.hid (by rw [← HK.out, hm, runL_had hmem])
        rw [decide_eq_true hmem] at cH
        clear hm hmem
        go_wp2
        go_ret2
        exact ⟨.slice none 0 0, by rw [← HN.out]; rfl, by rw [← HN.out]; exact World.ownsRow_nil _ _ _ _, hw⟩
      · rw [decide_eq_false hmem] at cH
        have hlen := hI.more rfl hmem
        obtain ⟨x, hx⟩ : ∃ x, ws[i] = x := ⟨_, rfl⟩
        have ex : ws[i]? = some x := by rw [List.getElem?_eq_getElem hil, hx]
        have hxl : x < 18446744073709551616 := HW.out x (hx ▸ List.getElem_mem hil)
        obtain ⟨b, off, rfl, hb, hA⟩ := HA.out (by simp; omega)
        have cX := hA i _ (word_at hil)
        rw [hx] at cX
        rcases hs : showF x key i with ⟨n, bb⟩
        have HS := Lib.hid hs
        have hnb := show_bd hs
        have HB2 : Hid (Blk (wr.setCell ⟨w.heap.size, i, none⟩ (.bool true)) w.heap.size 47 (hadC (out ++ [i]))) := Lib.hid (by have := hB.set_ i (.bool true); rwa [hadC_set hi16] at this)
        have HO2 := Lib.hid ((ownsRow_setCell_below hown (a := ⟨w.heap.size, i, none⟩) (by show w.heap.size < w.heap.size + 1; omega) (.bool true)).alloc (.cells #[.int .i64 i] 3))
        have HC2 := Lib.hid (one_news wr (wr.setCell ⟨w.heap.size, i, none⟩ (.bool true)) (.int .i64 i) 3 (by simp))
        have HX := Lib.hid ex
        have CX := Lib.hid cX
        clear hs ex cX hx hA
        have HW2 : Hid (Below w.heap.size w ((wr.setCell ⟨w.heap.size, i, none⟩ (.bool true)).alloc (.cells #[.int .i64 i] 3))) := Lib.hid (by (repeat' (first | (with_reducible exact Below.refl _ _) | (with_reducible assumption) | (with_reducible refine Below.alloc ?_ ?_ _) | (with_reducible refine below_drewN ?_ _) | (with_reducible refine Below.drew ?_) | (with_reducible refine Below.setCell ?_ ?_ _) | (with_reducible refine below_two ?_ (by with_reducible assumption)) | go_size)))
        by_cases hg : bb = true ∧ n < ws.length
        · obtain ⟨rfl, hn⟩ := hg
          have HN : Hid (runL ws key (17 - (out ++ [i]).length) (out ++ [i]) n = R) := Lib.hid (by
            rw [← HK.out, hm, runL_step hmem HX.out HS.out hn, List.length_append, List.length_singleton, show 17 - (out.length + 1) = m by omega])
          have hI2 := hI.next rfl hmem hnb.1 hn
          clear hm hmem
          go_wp2_with (first | (at_builtin; refine wpList_append_own_at _ rfl _ _ 31 rfl (w.heap.size + 1) 3 i0 (.int .i64 0) 1 8 Try.underlying31 I0.out I1.out I2.out I3.out rfl (by decide) _ _ _ rfl HO2.out ⟨wr.heap.size, 0, none⟩ 1 1 [.int .i64 i] rfl rfl HC2.out (fun u hu => by simp at hu; subst hu; rfl) (by unfold maxLen; omega) (by omega) (by simp; omega) ?_; intro v' w1 hown1 hgr1 hq1 hq2; clear hq1 hq2; have hw1 := below_grown HW2.out hgr1 (by simp; omega) (fun g hg => Nat.le_of_succ_le (hown.lt g hg).1); have cX1 := (hw1.cell (p := ⟨b, off + i, none⟩) hb).trans CX.out) | (go_at_call 12; with_reducible refine (show_at x key hxl hk i _ _ HS.out _).mono ?_; rintro e w0 ⟨rfl, hw0⟩; replace hw0 := hw0.symm; subst hw0))
          obtain ⟨A', c', rfl, -⟩ := Row.slice hown1
          have hb1 := blk_grown (HB2.out.alloc _) hgr1 (own_ne hown (Nat.lt_succ_self _))
          go_roundw
          case rel => exact ⟨out ++ [i], n, rfl, hI2, HN, by rw [List.length_append, List.length_singleton, show natV (out ++ [i]) = natV out ++ [.int .i64 i] by simp]; exact hown1, hb1, hw1⟩
          case measure => simp only [lenOf]; omega
        · have HN : Hid (([], (150 : Int)) = R) := Lib.hid (by rw [← HK.out, hm, runL_bad hmem HX.out HS.out hg])
          clear hm hmem
          cases bb
          · clear hg
            go_wp2_with (first | (at_builtin; refine wpList_append_own_at _ rfl _ _ 31 rfl (w.heap.size + 1) 3 i0 (.int .i64 0) 1 8 Try.underlying31 I0.out I1.out I2.out I3.out rfl (by decide) _ _ _ rfl HO2.out ⟨wr.heap.size, 0, none⟩ 1 1 [.int .i64 i] rfl rfl HC2.out (fun u hu => by simp at hu; subst hu; rfl) (by unfold maxLen; omega) (by omega) (by simp; omega) ?_; intro v' w1 hown1 hgr1 hq1 hq2; clear hq1 hq2; have hw1 := below_grown HW2.out hgr1 (by simp; omega) (fun g hg => Nat.le_of_succ_le (hown.lt g hg).1); have cX1 := (hw1.cell (p := ⟨b, off + i, none⟩) hb).trans CX.out) | (go_at_call 12; with_reducible refine (show_at x key hxl hk i _ _ HS.out _).mono ?_; rintro e w0 ⟨rfl, hw0⟩; replace hw0 := hw0.symm; subst hw0))
            go_ret2
            exact ⟨.slice none 0 0, by rw [← HN.out]; rfl, by rw [← HN.out]; exact World.ownsRow_nil _ _ _ _, hw1⟩
          · have hg' : ¬ n < ws.length := fun h => hg ⟨rfl, h⟩
            clear hg
            go_wp2_with (first | (at_builtin; refine wpList_append_own_at _ rfl _ _ 31 rfl (w.heap.size + 1) 3 i0 (.int .i64 0) 1 8 Try.underlying31 I0.out I1.out I2.out I3.out rfl (by decide) _ _ _ rfl HO2.out ⟨wr.heap.size, 0, none⟩ 1 1 [.int .i64 i] rfl rfl HC2.out (fun u hu => by simp at hu; subst hu; rfl) (by unfold maxLen; omega) (by omega) (by simp; omega) ?_; intro v' w1 hown1 hgr1 hq1 hq2; clear hq1 hq2; have hw1 := below_grown HW2.out hgr1 (by simp; omega) (fun g hg => Nat.le_of_succ_le (hown.lt g hg).1); have cX1 := (hw1.cell (p := ⟨b, off + i, none⟩) hb).trans CX.out) | (go_at_call 12; with_reducible refine (show_at x key hxl hk i _ _ HS.out _).mono ?_; rintro e w0 ⟨rfl, hw0⟩; replace hw0 := hw0.symm; subst hw0))
            go_ret2
            exact ⟨.slice none 0 0, by rw [← HN.out]; rfl, by rw [← HN.out]; exact World.ownsRow_nil _ _ _ _, hw1⟩

end Go.Proofs.Ytklhlhfplkmpmaa
