/-
  The walk of the reference's Ready; Ready of an empty row.
-/
import Derived.Test.YtodaknidbdicdaaSWalkG
import Derived.WalkKit
import Derived.Deep.DeepMust
import Derived.WalkSpells
import Derived.WalkLawsBesides
import Derived.Handy
import Derived.Lib.Hide
import Derived.Deep.QuietTactic
import Derived.BigQuiet
namespace Go.Proofs.Ytodaknidbdicdaa
open Go.RowKit

theorem ready_nil (d : Int) (A : Option Addr) (c : Nat) (w : World) : Calls Try.prog 39 #[.slice A 0 c, .int .i64 d] w (Readys w [] 0 0) := by
  have HNil : Hid (∀ (w : World) (A : Option Addr), WRow w A []) := Lib.hid (fun w A => Row.nil w A)
  have h0 : Hid (List.length ([] : List Wt) = 0) := Lib.hid rfl
  have e0 : Hid (errC [] = 0) := Lib.hid rfl
  go_enter Try.func39, Try.ntmps39
  go_wp2
  go_step3
  go_wp2_with (first | (go_at_call 50; with_reducible refine (check_any [] _ 0 c _ h0 (by omega) (HNil.out _ _) 0 e0.out).mono ?_; rintro e w1 ⟨rfl, hb1⟩) | (go_at_call 51; (with_reducible refine (row_any [] [] _ none 0 0 c 0 _ h0 h0 (by omega) (HNil.out _ _) (HNil.out _ _)).mono ?_); rintro e w2 ⟨v2, rfl, ho2, hb2⟩; obtain ⟨A2, c2, rfl, hc2, -⟩ := WRow.slice (l := []) ho2))
  go_step3
  go_wp2_with fail
  refine wp_loop_rounds 1 ?_
  rw [rounds_succ]
  go_wp2
  try rw [Exit.noGoto_ret]
  go_ret3
  exact ⟨_, A2, c2, rfl, World.ownsRow_nil _ _ _ _, fun h => absurd h (Nat.lt_irrefl 0), hc2, by (repeat' (first | (with_reducible exact Below.refl _ _) | (with_reducible assumption) | (with_reducible refine Below.alloc ?_ ?_ _) | (with_reducible refine below_drewN ?_ _) | (with_reducible refine Below.drew ?_) | (with_reducible refine Below.setCell ?_ ?_ _) | (with_reducible refine below_two ?_ (by with_reducible assumption)) | go_size))⟩

theorem refReady_err (l : List Wt) (d : Int) (A : Option Addr) (n c : Nat) (w : World) (hn : Hid (l.length = n)) (hn' : n ≤ 9223372036854775807) (hA : WRow w A l) (er : Int) (he : Hid (errC l = er)) (h0 : er ≠ 0) :
    Calls Try.prog 49 #[.slice A n c, .int .i64 d] w (ReadyErr w er) := by
  have HA := Lib.hid hA
  have hne : (er != 0) = true := bne_iff_ne.2 h0
  clear hA h0
  go_enter Try.func49, Try.ntmps49
  go_wp2_with (first | (go_at_call 52; with_reducible refine (refCheck_any l A n c _ hn hn' HA.out er he.out).mono ?_; rintro e w1 ⟨rfl, hb1⟩))
  go_ret3
  exact ⟨rfl, by (repeat' (first | (with_reducible exact Below.refl _ _) | (with_reducible assumption) | (with_reducible refine Below.alloc ?_ ?_ _) | (with_reducible refine below_drewN ?_ _) | (with_reducible refine Below.drew ?_) | (with_reducible refine Below.setCell ?_ ?_ _) | (with_reducible refine below_two ?_ (by with_reducible assumption)) | go_size))⟩

theorem refReady_nil (d : Int) (A : Option Addr) (c : Nat) (w : World) : Calls Try.prog 49 #[.slice A 0 c, .int .i64 d] w (Readys w [] 0 0) := by
  have HNil : Hid (∀ (w : World) (A : Option Addr), WRow w A []) := Lib.hid (fun w A => Row.nil w A)
  have h0 : Hid (List.length ([] : List Wt) = 0) := Lib.hid rfl
  have e0 : Hid (errC [] = 0) := Lib.hid rfl
  rcases Nat.eq_zero_or_pos c with rfl | hc
  all_goals
    first | have hc' : ¬ c = 0 := by omega | skip
    go_enter Try.func49, Try.ntmps49
    go_wp2_with (first | (go_at_call 52; with_reducible refine (refCheck_any [] _ 0 _ _ h0 (by omega) (HNil.out _ _) 0 e0.out).mono ?_; rintro e w1 ⟨rfl, hb1⟩))
    refine wp_loop_rounds 1 ?_
    rw [rounds_succ]
    go_wp2_with (first | (go_at_call 53; (with_reducible refine (copy_any [] _ 0 _ _ h0 (by omega) (HNil.out _ _)).mono ?_); rintro e w2 ⟨v2, rfl, ho2, hb2⟩; obtain ⟨A2, c2, rfl, hc2, -⟩ := WRow.slice (l := []) ho2))
    go_ret3
    exact ⟨_, A2, c2, rfl, World.ownsRow_nil _ _ _ _, fun h => absurd h (Nat.lt_irrefl 0), hc2, by (repeat' (first | (with_reducible exact Below.refl _ _) | (with_reducible assumption) | (with_reducible refine Below.alloc ?_ ?_ _) | (with_reducible refine below_drewN ?_ _) | (with_reducible refine Below.drew ?_) | (with_reducible refine Below.setCell ?_ ?_ _) | (with_reducible refine below_two ?_ (by with_reducible assumption)) | go_size))⟩

theorem RestAt.of_own {w : World} {B : Nat} {A : Option Addr} {l : List Wt} {n c : Nat} (h : w.ownsRow B 78 2 (.slice A n c) n (rowV l)) (hl : l.length = n) : RestAt w B A l := fun hp => by
  obtain ⟨g, cap, hv, hb, hlt⟩ := h.form (by omega)
  have hA : A = some ⟨g, 0, none⟩ := by injection hv
  subst hA
  exact ⟨g, 0, rfl, hb, hlt, fun o => h.frozenAt o, fun j u hu => by have := h.cells (g := g) rfl j u hu; rwa [addr_add] at this⟩

set_option maxHeartbeats 4000000 in
theorem refReady_ok (l : List Wt) (d : Int) (b off : Nat) (n c : Nat) (w : World) (hn : Hid (l.length = n)) (hn' : n ≤ 256) (hnc : n ≤ c) (hA : WRow w (some ⟨b, off, none⟩) l) (hbl : b < w.heap.size) (hcl : ∀ j u, (rowV l)[j]? = some u → w.cell? ⟨b, off + j, none⟩ = some u) (he : Hid (errC l = 0)) (K : Nat) (hK : cutN d l = K) :
    Calls Try.prog 49 #[.slice (some ⟨b, off, none⟩) n c, .int .i64 d] w (Readys w l n K) := by
  obtain ⟨i0, hi, hz0, hz1, hz2⟩ := info_parts Try.infoInt
  have I0 := Lib.hid hi
  have I1 := Lib.hid hz0
  have I2 := Lib.hid hz1
  have I3 := Lib.hid hz2
  have HA := Lib.hid hA
  have HC := Lib.hid hcl
  have HK := Lib.hid hK
  clear hi hz0 hz1 hz2 hA hcl hK
  go_enter Try.func49, Try.ntmps49
  go_wp2_with (first | (go_at_call 52; with_reducible refine (refCheck_any l _ n c _ hn (by omega) HA.out 0 he.out).mono ?_; rintro e w1 ⟨rfl, hb1⟩))
  have z1 := hb1.size
  go_loopw [8, 9] (fun t j wr => ∃ k : Nat, k ≤ n ∧ j = .int .i64 k ∧ wr.ownsRow w.heap.size 3 1 t k (intsV (idsL (l.take k))) ∧ Hid (k + cutN d (l.drop k) = K) ∧ Below w.heap.size w wr) (fun _ j _ => n - (intOf j).toNat)
  case atStart => exact ⟨0, by omega, rfl, World.ownsRow_nil _ _ _ _, Lib.hid (by rw [Nat.zero_add]; exact HK.out), hb1⟩
  case round =>
    obtain ⟨k, hk, rfl, hown, HC5, hbw⟩ := hrel
    have hz := hbw.size
    clear hb1
    by_cases hlt : k < n
    · have hlt' : k < l.length := by rw [hn.out]; exact hlt
      obtain ⟨c0, c1⟩ := wrow_cells HC.out hlt'
      obtain ⟨x, hx⟩ : ∃ x, l[k] = x := ⟨_, rfl⟩
      have HX := Lib.hid hx
      rw [hx] at c0 c1
      obtain ⟨xi, xa⟩ := x
      simp only at c0 c1
      have d0 := (hbw.cell (p := ⟨b, off + k * 2, none⟩) hbl).trans c0
      have d1 := (hbw.cell (p := ⟨b, off + k * 2 + 1, none⟩) hbl).trans c1
      have k0 : (0 : Int) ≤ (k : Int) := by omega
      have k1 : (k : Int) < (n : Int) := by omega
      clear c0 c1 hx
      by_cases hd : xa ≤ d
      · have HIn := Lib.hid (cutN_in hlt' (by rw [HX.out]; exact hd))
        have HWN := Lib.hid hown
        have HO := Lib.hid (hown.alloc (.cells #[.int .i64 xi] 3))
        have HR := Lib.hid (Row.reads (n := 1) (Row.of_one (Blk.new wr 3 #[.int .i64 xi])) rfl)
        have HC6 : Hid (k + 1 + cutN d (l.drop (k + 1)) = K) := Lib.hid (by have h1 := HC5.out; have h2 := HIn.out; omega)
        have HS := Lib.hid (ids_snoc hlt' HX.out)
        clear hown HIn
        go_wp2_with (first | (at_builtin; refine wpList_append_any _ rfl _ _ 45 rfl w.heap.size 3 i0 (.int .i64 0) 1 8 Try.underlying45 I0.out I1.out I2.out I3.out rfl (by decide) _ k _ rfl HO.out _ (some ⟨wr.heap.size, 0, none⟩) 1 1 [.int .i64 xi] rfl HR.out (fun u hu => by simp at hu; subst hu; rfl) (by unfold maxLen; omega) (by omega) (by go_size) ?_; intro v3 w3 ho3 hg3 hq3; clear hq3; have hb3 : Below w.heap.size w w3 := below_grown' (by (repeat' (first | (with_reducible exact Below.refl _ _) | (with_reducible assumption) | (with_reducible refine Below.alloc ?_ ?_ _) | (with_reducible refine below_drewN ?_ _) | (with_reducible refine Below.drew ?_) | (with_reducible refine Below.setCell ?_ ?_ _) | (with_reducible refine below_two ?_ (by with_reducible assumption)) | go_size))) hg3 HO.out (by go_size) (by go_size)))
        rw [← HS.out] at ho3
        go_roundw
        case rel => exact ⟨k + 1, by omega, by go_num, ho3, HC6, hb3⟩
        case measure => simp [intOf]; omega
      · have HKk : Hid (K = k) := Lib.hid (by have h1 := HC5.out; rw [cutN_out hlt' (by rw [HX.out]; show d < xa; omega)] at h1; omega)
        have hck : ¬ c = k := by omega
        have hl : Hid ((l.drop k).length = n - k) := Lib.hid (by rw [List.length_drop, hn.out])
        have HD : Hid (WRow wr (some ⟨b, off + k * 2, none⟩) (l.drop k)) := Lib.hid (fun _ => ⟨b, off + k * 2, rfl, by omega, fun j u hu => by
          rw [rowV_drop, List.getElem?_drop] at hu
          rw [Nat.add_assoc]
          exact (hbw.cell (p := ⟨b, off + (k * 2 + j), none⟩) hbl).trans (HC.out _ _ hu)⟩)
        go_wp2_with (first | (go_at_call 53; (with_reducible refine (copy_any (l.drop k) _ (n - k) _ _ hl (by omega) HD.out).mono ?_); rintro e w2 ⟨v2, rfl, ho2, hb2⟩; obtain ⟨A2, c2, rfl, hc2, -⟩ := WRow.slice ho2))
        go_ret3
        have hKk := HKk.out
        subst hKk
        exact ⟨_, A2, c2, rfl, own_below hown hb2, RestAt.of_own (own_le ho2 hz) hl.out, hc2, by (repeat' (first | (with_reducible exact Below.refl _ _) | (with_reducible assumption) | (with_reducible refine Below.alloc ?_ ?_ _) | (with_reducible refine below_drewN ?_ _) | (with_reducible refine Below.drew ?_) | (with_reducible refine Below.setCell ?_ ?_ _) | (with_reducible refine below_two ?_ (by with_reducible assumption)) | go_size))⟩
    · have HKk : Hid (K = n) := Lib.hid (by have h1 := HC5.out; rw [cutN_end (by rw [hn.out]; omega)] at h1; omega)
      have hkn : k = n := by omega
      subst hkn
      have hl : Hid (List.length ([] : List Wt) = k - k) := Lib.hid (by simp)
      have HNil : Hid (∀ (w : World) (A : Option Addr), WRow w A []) := Lib.hid (fun w A => Row.nil w A)
      have HD : Hid (l.drop k = []) := Lib.hid (List.drop_eq_nil_of_le (by rw [hn.out]; exact Nat.le_refl _))
      by_cases hck : c = k
      all_goals
        go_wp2_with (first | (go_at_call 53; (first | (with_reducible refine (copy_any [] _ (k - k) _ _ hl (by omega) (HNil.out _ _)).mono ?_) | (with_reducible refine (copy_any [] _ 0 _ _ (Lib.hid rfl) (by omega) (HNil.out _ _)).mono ?_)); rintro e w2 ⟨v2, rfl, ho2, hb2⟩; obtain ⟨A2, c2, rfl, hc2, -⟩ := WRow.slice ho2))
        go_ret3
        have hKk := HKk.out
        subst hKk
        exact ⟨_, A2, c2, by rw [Nat.sub_self]; rfl, own_below hown hb2, fun h => (by rw [HD.out] at h; exact absurd h (Nat.lt_irrefl 0)), by omega, by (repeat' (first | (with_reducible exact Below.refl _ _) | (with_reducible assumption) | (with_reducible refine Below.alloc ?_ ?_ _) | (with_reducible refine below_drewN ?_ _) | (with_reducible refine Below.drew ?_) | (with_reducible refine Below.setCell ?_ ?_ _) | (with_reducible refine below_two ?_ (by with_reducible assumption)) | go_size))⟩

/-- Ready, of both, of any row. -/
theorem ready_any (l : List Wt) (d : Int) (A : Option Addr) (n c : Nat) (w : World) (hn : Hid (l.length = n)) (hA : WRow w A l) (he : Hid (errC l = 0)) (K : Nat) (hK : cutN d l = K) :
    Calls Try.prog 39 #[.slice A n c, .int .i64 d] w (Readys w l n K) := by
  have h256 := (errC_zero.1 he.out).1
  rw [hn.out] at h256
  rcases Nat.eq_zero_or_pos n with h0 | hp
  · have hl : l = [] := List.eq_nil_of_length_eq_zero (hn.out.trans h0)
    subst hl h0
    obtain rfl : 0 = K := hK
    exact ready_nil d A c w
  · obtain ⟨b, off, rfl, hb, hc⟩ := hA (by rw [rowV_len, hn.out]; omega)
    exact ready_ok l d b off n c w hn h256 hA hb hc hp he K hK
theorem refReady_any (l : List Wt) (d : Int) (A : Option Addr) (n c : Nat) (w : World) (hn : Hid (l.length = n)) (hnc : n ≤ c) (hA : WRow w A l) (he : Hid (errC l = 0)) (K : Nat) (hK : cutN d l = K) :
    Calls Try.prog 49 #[.slice A n c, .int .i64 d] w (Readys w l n K) := by
  have h256 := (errC_zero.1 he.out).1
  rw [hn.out] at h256
  rcases Nat.eq_zero_or_pos n with h0 | hp
  · have hl : l = [] := List.eq_nil_of_length_eq_zero (hn.out.trans h0)
    subst hl h0
    obtain rfl : 0 = K := hK
    exact refReady_nil d A c w
  · obtain ⟨b, off, rfl, hb, hc⟩ := hA (by rw [rowV_len, hn.out]; omega)
    exact refReady_ok l d b off n c w hn h256 hnc hA hb hc he K hK

end Go.Proofs.Ytodaknidbdicdaa
