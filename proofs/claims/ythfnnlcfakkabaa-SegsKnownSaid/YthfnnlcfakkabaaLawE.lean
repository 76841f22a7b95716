/-
  The walk of SegsTwice.
-/
import Derived.Test.YthfnnlcfakkabaaLawD
import Derived.WalkKit
import Derived.Deep.DeepMust
import Derived.WalkSpells
import Derived.WalkLawsBesides
import Derived.Handy
import Derived.Lib.Hide
import Derived.Deep.QuietTactic
import Derived.BigQuiet
namespace Go.Proofs.Ythfnnlcfakkabaa
open Go.RowKit

theorem twice_err (l : List Wt) (n c : Nat) (A : Option Addr) (a b lo hi : Int) (hlo : min a b = lo) (hhi : max a b = hi) (hn : Hid (l.length = n)) (hn' : n ≤ 9223372036854775807) (er : Int) (he : Hid (errC l = er)) (h0 : er ≠ 0) (w : World) (hA : WRow w A l) :
    Calls Try.prog 6 #[.slice A n c, .int .i64 a, .int .i64 b] w fun e w' => e = .returned (.bool true) ∧ Below w.heap.size w w' := by
  have HA := Lib.hid hA
  have H0 := Lib.hid h0
  have hne : (er != 0) = true := bne_iff_ne.2 h0
  have hnil : Hid (List.length ([] : List Wt) = 0) := Lib.hid rfl
  have HNil : Hid (∀ w, WRow w none []) := Lib.hid (fun w => Row.nil w none)
  have e0 : Hid (errC [] = 0) := Lib.hid rfl
  clear hA h0
  go_enter Try.func6, Try.ntmps6
  go_wp2_with (first | (go_at_call 18; (with_reducible refine (ready_err l lo A n c _ hn hn' HA.out er he H0.out).mono ?_); rintro e w1 ⟨rfl, hb1⟩; have hA1 := HA.out.below hb1; have z1 := hb1.size) | (go_at_call 18; (with_reducible refine (ready_m [] hi none 0 0 _ hnil (HNil.out _) e0 0 0 rfl rfl).mono ?_); rintro e w2 ⟨v2, A2, c2, A3, c3, rfl, -, -, -, -, -, hb2⟩; have hA2 := hA1.below hb2; have z2 := hb2.size) | (go_at_call 18; (with_reducible refine (ready_err l hi A n c _ hn hn' hA2 er he H0.out).mono ?_); rintro e w3 ⟨rfl, hb3⟩; have z3 := hb3.size) | (go_at_call 17; with_reducible refine (works_any _).mono ?_; rintro e w4 ⟨rfl, hb4⟩))
  go_ret
  exact ⟨rfl, by (repeat' (first | (with_reducible exact Below.refl _ _) | (with_reducible assumption) | (with_reducible refine Below.alloc ?_ ?_ _) | (with_reducible refine below_drewN ?_ _) | (with_reducible refine Below.drew ?_) | (with_reducible refine Below.setCell ?_ ?_ _) | (with_reducible refine below_two ?_ (by with_reducible assumption)) | go_size))⟩

theorem row_far {w w' : World} {v : Value} {base : Nat} {e : TypeId} {size n : Nat} {xs : List Value} {A : Option Addr} {ys : List Value} (a : World) (ho : a.ownsRow base e size v n xs) (hg : w.grownBy w' v.ownBlock) (hr : Row w A ys) (hA : 0 < ys.length → ∀ b off, A = some ⟨b, off, none⟩ → a.heap.size ≤ b) : Row w' A ys := fun hp => by
  obtain ⟨b, off, rfl, hb, hc⟩ := hr hp
  exact ⟨b, off, rfl, Nat.lt_of_lt_of_le hb hg.size, fun j u hu => grown_far a ho hg (p := ⟨b, off + j, none⟩) (hA hp b off rfl) (hc j u hu)⟩
theorem own_from {w : World} {base : Nat} {e : TypeId} {n c : Nat} {xs : List Value} {A : Option Addr} {B : Nat} (h : w.ownsRow base e 1 (.slice A n c) n xs) (hB : B ≤ base) : 0 < xs.length → ∀ b off, A = some ⟨b, off, none⟩ → B ≤ b := by
  intro hp b off hA
  have hl := h.1
  obtain ⟨g, cap, hv, hb, -⟩ := h.form (by omega)
  injection hv with hv
  rw [hA] at hv
  injection hv with hv
  injection hv with hv
  omega
theorem RestAt.far {w w' : World} {v : Value} {base : Nat} {e : TypeId} {size n : Nat} {xs : List Value} {A : Option Addr} {l : List Wt} {B : Nat} (h : RestAt w B A l) (a : World) (ho : a.ownsRow base e size v n xs) (hg : w.grownBy w' v.ownBlock) (hB : a.heap.size ≤ B) : WRow w' A l :=
  row_far a ho hg h.row fun hp b off hA => by
    obtain ⟨g, o, e, hb, -⟩ := h (by rw [rowV_len] at hp; omega)
    rw [hA] at e
    injection e with e
    injection e with e
    omega
theorem ids_add (l : List Wt) (K J : Nat) : intsV (idsL (l.take K)) ++ intsV (idsL ((l.drop K).take J)) = intsV (idsL (l.take (K + J))) := by
  rw [List.take_add]
  simp [intsV, idsL]

set_option maxRecDepth 100000 in
set_option maxHeartbeats 8000000 in
theorem twice_ok (l : List Wt) (n c : Nat) (A : Option Addr) (a b lo hi : Int) (hlo : min a b = lo) (hhi : max a b = hi) (hn : Hid (l.length = n)) (hn' : n ≤ 256) (he : Hid (errC l = 0)) (K J m s : Nat) (hK : Hid (cutN lo l = K)) (hJ : Hid (cutN hi (l.drop K) = J)) (hT : Hid (cutN hi l = K + J)) (hm : Hid (n - K = m)) (hs : Hid (m - J = s)) (ht : Hid (n - (K + J) = s)) (hn2 : K + J ≤ n) (hsn : s ≤ n) (w : World) (hA : WRow w A l) :
    Calls Try.prog 6 #[.slice A n c, .int .i64 a, .int .i64 b] w fun e w' => e = .returned (.bool true) ∧ Below w.heap.size w w' := by
  obtain ⟨i0, hi0, hz0, hz1, hz2⟩ := info_parts Try.infoInt
  have I0 := Lib.hid hi0
  have I1 := Lib.hid hz0
  have I2 := Lib.hid hz1
  have I3 := Lib.hid hz2
  have HA := Lib.hid hA
  have hd : Hid ((l.drop K).length = m) := Lib.hid (by rw [List.length_drop, hn.out]; exact hm.out)
  have hok := (errC_zero.1 he.out).2
  have he2 : Hid (errC (l.drop K) = 0) := Lib.hid (errC_zero.2 ⟨by rw [hd.out, ← hm.out]; omega, okF_drop (last := 1) K hok hok⟩)
  have hiK : Hid ((idsL (l.take (K + J))).length = K + J) := Lib.hid (by unfold idsL; rw [List.length_map, List.length_take, hn.out]; omega)
  have hiJ : Hid ((intsV (idsL ((l.drop K).take J))).length = J) := Lib.hid (by unfold intsV idsL; rw [List.length_map, List.length_map, List.length_take, hd.out, ← hm.out]; omega)
  have hdd : Hid ((l.drop K).drop J = l.drop (K + J)) := Lib.hid (by rw [List.drop_drop])
  have hds : Hid ((l.drop (K + J)).length = s) := Lib.hid (by rw [List.length_drop, hn.out]; exact ht.out)
  clear hA hok hi0 hz0 hz1 hz2
  go_enter Try.func6, Try.ntmps6
  go_wp2_with (first | (go_at_call 18; (with_reducible refine (ready_m l lo A n c _ hn HA.out he K m hK.out hm.out).mono ?_); rintro e w1 ⟨v1, A1, c1, A2, c2, rfl, hv1, ho1, -, hR1, -, hb1⟩; subst hv1; have O1 := Lib.hid ho1; have hA1 := HA.out.below hb1; have r1 := hR1.row; have z1 := hb1.size) | (go_at_call 18; (with_reducible refine (ready_m (l.drop K) hi A2 m c2 _ hd r1 he2 J s hJ.out hs.out).mono ?_); rintro e w2 ⟨v2, A3, c3, A4, c4, rfl, -, -, hr2, hR2, -, hb2⟩; have O2 := Lib.hid (own_below O1.out hb2); have hA2 := hA1.below hb2; have R2 := Lib.hid hr2; have S2 := Lib.hid hR2; clear hr2 hR2; have z2 := hb2.size) | (go_at_call 18; (with_reducible refine (ready_m l hi A n c _ hn hA2 he (K + J) s hT.out ht.out).mono ?_); rintro e w3 ⟨v3, A5, c5, A6, c6, rfl, hv3, ho3, hr3, hR3, -, hb3⟩; subst hv3; have V3 := Lib.hid ho3; clear ho3; have O3 := Lib.hid (own_below O2.out hb3); have R3 := Lib.hid (Row.reads (n := J) (R2.out.below hb3) hiJ.out); have T3 := Lib.hid hr3; have S3 := Lib.hid (S2.out.below hb3); have U3 := Lib.hid hR3; clear hr3 hR3 ho1; have z3 := hb3.size) | (at_builtin; refine wpList_append_any _ rfl _ _ 34 rfl w.heap.size 3 i0 (.int .i64 0) 1 8 Try.underlying34 I0.out I1.out I2.out I3.out rfl (by decide) _ K _ rfl O3.out _ A3 J _ (intsV (idsL ((l.drop K).take J))) rfl R3.out (fun u hu => by obtain ⟨x, -, rfl⟩ := List.mem_map.1 hu; rfl) (by unfold maxLen; omega) (by omega) (by omega) ?_; intro v4 w4 ho4 hg4 hq4; clear hq4; rw [ids_add] at ho4; obtain ⟨A7, c7, rfl, hr4⟩ := Row.slice ho4; have ht4 := row_far w1 O1.out hg4 T3.out (own_from V3.out z2); have hs4 := S3.out.far w1 O1.out hg4 (Nat.le_refl _); have hu4 := U3.out.far w1 O1.out hg4 z2; have hb4 : Below w.heap.size w w4 := below_grown' (by (repeat' (first | (with_reducible exact Below.refl _ _) | (with_reducible assumption) | (with_reducible refine Below.alloc ?_ ?_ _) | (with_reducible refine below_drewN ?_ _) | (with_reducible refine Below.drew ?_) | (with_reducible refine Below.setCell ?_ ?_ _) | (with_reducible refine below_two ?_ (by with_reducible assumption)) | go_size))) hg4 O3.out (by omega) (Nat.le_refl _); have z4 := hg4.size; clear hg4 ho4) | (go_at_call 20; (with_reducible refine (eqI (idsL (l.take (K + J))) (idsL (l.take (K + J))) (K + J) (K + J) true hiK.out hiK.out (by omega) (by omega) (decide_eq_true rfl) A7 A5 c7 c5 _ hr4 ht4).mono ?_); rintro e w5 ⟨rfl, hb5⟩; have hs5 := hs4.below hb5; have hu5 := hu4.below hb5; have z5 := hb5.size))
  have q5 : Below w.heap.size w w5 := by (repeat' (first | (with_reducible exact Below.refl _ _) | (with_reducible assumption) | (with_reducible refine Below.alloc ?_ ?_ _) | (with_reducible refine below_drewN ?_ _) | (with_reducible refine Below.drew ?_) | (with_reducible refine Below.setCell ?_ ?_ _) | (with_reducible refine below_two ?_ (by with_reducible assumption)) | go_size))
  rw [hdd.out] at hs5
  have HS := Lib.hid (Row.toB hs5)
  have HU := Lib.hid (Row.toB hu5)
  clear hs5 hu5 hs4 hu4 ht4 hr4 hb1 hb2 hb3 hb4 hb5 hA1 hA2 r1
  go_loopw [16] (fun j wr => ∃ k : Nat, k ≤ s ∧ j = .int .i64 k ∧ Below w5.heap.size w5 wr) (fun j _ => s - (intOf j).toNat)
  case atStart => exact ⟨0, by omega, rfl, Below.refl _ _⟩
  case round =>
    obtain ⟨k, hk, rfl, hw⟩ := hrel
    have hz := hw.size
    by_cases hlt : k < s
    · have hkl : k < (l.drop (K + J)).length := by rw [hds.out]; exact hlt
      obtain ⟨g, o, rfl, hgl, hgc⟩ := HS.out (by rw [rowV_len]; omega)
      obtain ⟨g', o', rfl, hgl', hgc'⟩ := HU.out (by rw [rowV_len]; omega)
      obtain ⟨e0, e1⟩ := wrow_cells hgc hkl
      obtain ⟨f0, f1⟩ := wrow_cells hgc' hkl
      obtain ⟨x, hx⟩ : ∃ x, (l.drop (K + J))[k] = x := ⟨_, rfl⟩
      rw [hx] at e0 e1 f0 f1
      obtain ⟨xi, xa⟩ := x
      simp only at e0 e1 f0 f1
      have p0 := (hw.cell (p := ⟨g, o + k * 2, none⟩) hgl).trans e0
      have p1 := (hw.cell (p := ⟨g, o + k * 2 + 1, none⟩) hgl).trans e1
      have q0 := (hw.cell (p := ⟨g', o' + k * 2, none⟩) hgl').trans f0
      have q1 := (hw.cell (p := ⟨g', o' + k * 2 + 1, none⟩) hgl').trans f1
      have k0 : (0 : Int) ≤ (k : Int) := by omega
      have k1 : (k : Int) < (s : Int) := by omega
      clear e0 e1 f0 f1 hgc hgc' hx hkl
      go_wp2
      go_quiet (fail)
      go_wp2
      go_roundw
      case rel => exact ⟨k + 1, by omega, by go_num, by (repeat' (first | (with_reducible exact Below.refl _ _) | (with_reducible assumption) | (with_reducible refine Below.alloc ?_ ?_ _) | (with_reducible refine below_drewN ?_ _) | (with_reducible refine Below.drew ?_) | (with_reducible refine Below.setCell ?_ ?_ _) | (with_reducible refine below_two ?_ (by with_reducible assumption)) | go_size))⟩
      case measure => simp [intOf]; omega
    · go_wp2_with (first | (go_at_call 17; with_reducible refine (works_any _).mono ?_; rintro e w6 ⟨rfl, hb6⟩))
      go_ret
      exact ⟨rfl, by (repeat' (first | (with_reducible exact Below.refl _ _) | (with_reducible assumption) | (with_reducible refine Below.alloc ?_ ?_ _) | (with_reducible refine below_drewN ?_ _) | (with_reducible refine Below.drew ?_) | (with_reducible refine Below.setCell ?_ ?_ _) | (with_reducible refine below_two ?_ (by with_reducible assumption)) | go_size))⟩

theorem twice_any (l : List Wt) (n c : Nat) (A : Option Addr) (a b : Int) (hn : l.length = n) (hn' : n ≤ 9223372036854775807) (w : World) (hA : WRow w A l) :
    Calls Try.prog 6 #[.slice A n c, .int .i64 a, .int .i64 b] w fun e w' => e = .returned (.bool true) ∧ Below w.heap.size w w' := by
  by_cases h0 : errC l = 0
  · have h256 := (errC_zero.1 h0).1
    have h1 := cutN_le (min a b) l
    have h2 := cutN_le (max a b) (l.drop (cutN (min a b) l))
    have h3 := cutN_twice (show min a b ≤ max a b by omega) l
    rw [List.length_drop] at h2
    exact twice_ok l n c A a b _ _ rfl rfl (Lib.hid hn) (by omega) (Lib.hid h0) _ _ (n - cutN (min a b) l) (n - (cutN (min a b) l + cutN (max a b) (l.drop (cutN (min a b) l)))) (Lib.hid rfl) (Lib.hid rfl) (Lib.hid h3) (Lib.hid rfl) (Lib.hid (by omega)) (Lib.hid rfl) (by omega) (by omega) w hA
  · exact twice_err l n c A a b _ _ rfl rfl (Lib.hid hn) hn' _ (Lib.hid rfl) h0 w hA

end Go.Proofs.Ythfnnlcfakkabaa
