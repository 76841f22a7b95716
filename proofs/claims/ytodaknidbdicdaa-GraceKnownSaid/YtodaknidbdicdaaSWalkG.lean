/-
  The walk of Ready.
-/
import Derived.Test.YtodaknidbdicdaaSWalkE
import Derived.Test.YtodaknidbdicdaaEqInts
import Derived.WalkKit
import Derived.Deep.DeepMust
import Derived.WalkSpells
import Derived.WalkLawsBesides
import Derived.Handy
import Derived.Lib.Hide
import Derived.Deep.QuietTactic
import Derived.BigQuiet
namespace Go.Proofs.Ytodaknidbdicdaa
open Go.RowKit

theorem Try.infoInt : (Try.prog.info? 3).map (fun i => (i.zero, i.size, i.bytes)) = some (some (.int .i64 0), 1, 8) := by kernel_rfl

/-- The rest of a row that the call itself has made: it lies in a block from B on, which may be written. -/
def RestAt (w : World) (B : Nat) (A : Option Addr) (l : List Wt) : Prop := 0 < l.length → ∃ g off, A = some ⟨g, off, none⟩ ∧ B ≤ g ∧ g < w.heap.size ∧ (∀ o, w.frozen? ⟨g, o, none⟩ = false) ∧ ∀ j u, (rowV l)[j]? = some u → w.cell? ⟨g, off + j, none⟩ = some u
theorem RestAt.row {w : World} {B : Nat} {A : Option Addr} {l : List Wt} (h : RestAt w B A l) : WRow w A l := fun hp => by
  obtain ⟨g, off, e, -, hl, -, hc⟩ := h (by rw [rowV_len] at hp; omega)
  exact ⟨g, off, e, hl, hc⟩
theorem RestAt.below {w w' : World} {B : Nat} {A : Option Addr} {l : List Wt} (h : RestAt w B A l) (hb : Below w.heap.size w w') : RestAt w' B A l := fun hp => by
  obtain ⟨g, off, e, h1, hl, hf, hc⟩ := h hp
  exact ⟨g, off, e, h1, Nat.lt_of_lt_of_le hl hb.size, fun o => (hb.frozen (p := ⟨g, o, none⟩) hl).trans (hf o), fun j u hu => (hb.cell (p := ⟨g, off + j, none⟩) hl).trans (hc j u hu)⟩

/-- What Ready hands back: K records' numbers, and the rest. -/
def Readys (w : World) (l : List Wt) (n K : Nat) (e : Ending) (w' : World) : Prop :=
  ∃ v A c, e = .returned (.tuple #[v, .slice A (n - K) c, .int .i64 0]) ∧ w'.ownsRow w.heap.size 3 1 v K (intsV (idsL (l.take K))) ∧ RestAt w' w.heap.size A (l.drop K) ∧ n - K ≤ c ∧ Below w.heap.size w w'
def ReadyErr (w : World) (er : Int) (e : Ending) (w' : World) : Prop := e = .returned (.tuple #[.slice none 0 0, .slice none 0 0, .int .i64 er]) ∧ Below w.heap.size w w'

theorem ids_snoc {l : List Wt} {k : Nat} {x : Wt} (h : k < l.length) (hx : l[k] = x) : intsV (idsL (l.take (k + 1))) = intsV (idsL (l.take k)) ++ [.int .i64 x.id] := by
  rw [List.take_succ_eq_append_getElem h, hx]
  simp [intsV, idsL]
theorem Row.of_one {w : World} {g : Nat} {t : TypeId} {u : Value} (h : Blk w g t #[u]) : Row w (some ⟨g, 0, none⟩) [u] := fun _ =>
  ⟨g, 0, rfl, h.lt, fun j x hx => by rw [Nat.zero_add, h.cell, ← Array.getElem?_toList]; exact hx⟩
theorem grown_far {w w' : World} {v : Value} {base : Nat} {e : TypeId} {size n : Nat} {xs : List Value} {p : Addr} {u : Value} (a : World) (ho : a.ownsRow base e size v n xs) (hg : w.grownBy w' v.ownBlock) (hp : a.heap.size ≤ p.block) (hc : w.cell? p = some u) : w'.cell? p = some u := by
  refine (World.cell?_of_block (w := w) (hg.block p.block (World.block_lt_of_cell? w p hc) ?_)).trans hc
  intro h
  have := (ho.lt _ h.symm).2
  omega
theorem ready_err (l : List Wt) (d : Int) (A : Option Addr) (n c : Nat) (w : World) (hn : Hid (l.length = n)) (hn' : n ≤ 9223372036854775807) (hA : WRow w A l) (er : Int) (he : Hid (errC l = er)) (h0 : er ≠ 0) :
    Calls Try.prog 39 #[.slice A n c, .int .i64 d] w (ReadyErr w er) := by
  have HA := Lib.hid hA
  have hne : (er != 0) = true := bne_iff_ne.2 h0
  clear hA h0
  go_enter Try.func39, Try.ntmps39
  go_wp2
  go_step3
  go_wp2_with (first | (go_at_call 50; with_reducible refine (check_any l A n c _ hn hn' HA.out er he.out).mono ?_; rintro e w1 ⟨rfl, hb1⟩))
  try rw [Exit.noGoto_ret]
  go_ret3
  exact ⟨rfl, by (repeat' (first | (with_reducible exact Below.refl _ _) | (with_reducible assumption) | (with_reducible refine Below.alloc ?_ ?_ _) | (with_reducible refine below_drewN ?_ _) | (with_reducible refine Below.drew ?_) | (with_reducible refine Below.setCell ?_ ?_ _) | (with_reducible refine below_two ?_ (by with_reducible assumption)) | go_size))⟩

set_option maxHeartbeats 4000000 in
theorem ready_ok (l : List Wt) (d : Int) (b off : Nat) (n c : Nat) (w : World) (hn : Hid (l.length = n)) (hn' : n ≤ 256) (hA : WRow w (some ⟨b, off, none⟩) l) (hbl : b < w.heap.size) (hcl : ∀ j u, (rowV l)[j]? = some u → w.cell? ⟨b, off + j, none⟩ = some u) (hp : 0 < n) (he : Hid (errC l = 0)) (K : Nat) (hK : cutN d l = K) :
    Calls Try.prog 39 #[.slice (some ⟨b, off, none⟩) n c, .int .i64 d] w (Readys w l n K) := by
  obtain ⟨i0, hi, hz0, hz1, hz2⟩ := info_parts Try.infoInt
  have I0 := Lib.hid hi
  have I1 := Lib.hid hz0
  have I2 := Lib.hid hz1
  have I3 := Lib.hid hz2
  have HA := Lib.hid hA
  have HC := Lib.hid hcl
  have HK := Lib.hid hK
  have h0 : Hid (List.length ([] : List Wt) = 0) := Lib.hid rfl
  have HNil : Hid (∀ w, WRow w none []) := Lib.hid (fun w => Row.nil w none)
  clear hi hz0 hz1 hz2 hA hcl hK
  go_enter Try.func39, Try.ntmps39
  go_wp2
  go_step3
  go_wp2_with (first | (go_at_call 50; with_reducible refine (check_any l _ n c _ hn (by omega) HA.out 0 he.out).mono ?_; rintro e w1 ⟨rfl, hb1⟩; have hA1 := HA.out.below hb1) | (go_at_call 51; (with_reducible refine (row_any l [] _ none n 0 c 0 _ hn h0 (by omega) hA1 (HNil.out _)).mono ?_); rintro e w2 ⟨v2, rfl, ho2, hb2⟩; rw [List.append_nil, Nat.add_zero] at ho2; obtain ⟨g, C, rfl, hg1, hg2⟩ := ho2.form hp))
  have z1 := hb1.size
  have z2 := hb2.size
  have hcap : n ≤ C := by
    rcases ho2.2 with ⟨h, -⟩ | ⟨g', cap, cur, h, -, -, h2, -⟩
    · cases h
    · injection h with _ _ h
      omega
  have HO2 := Lib.hid ho2
  have hw2 : Below w.heap.size w w2 := by (repeat' (first | (with_reducible exact Below.refl _ _) | (with_reducible assumption) | (with_reducible refine Below.alloc ?_ ?_ _) | (with_reducible refine below_drewN ?_ _) | (with_reducible refine Below.drew ?_) | (with_reducible refine Below.setCell ?_ ?_ _) | (with_reducible refine below_two ?_ (by with_reducible assumption)) | go_size))
  have z3 := hw2.size
  clear ho2 hA1 hb1 hb2
  go_step3
  go_wp2_with fail
  go_loopw [4, 5, 19] (fun t r j wr => ∃ (k m D : Nat) (A5 : Option Addr), k + m = n ∧ k + D = C ∧ j = .int .i64 k ∧ r = .slice A5 m D ∧ (0 < m → A5 = some ⟨g, k * 2, none⟩) ∧ wr.ownsRow w2.heap.size 3 1 t k (intsV (idsL (l.take k))) ∧ Hid (k + cutN d (l.drop k) = K) ∧ Below w2.heap.size w2 wr) (fun _ _ j _ => n - (intOf j).toNat)
  case atStart => exact ⟨0, n, C, _, by omega, by omega, rfl, rfl, fun _ => rfl, World.ownsRow_nil _ _ _ _, Lib.hid (by rw [Nat.zero_add]; exact HK.out), Below.refl _ _⟩
  case round =>
    obtain ⟨k, m, D, A5, hkm, hkD, rfl, rfl, hA5, hown, HC5, hw⟩ := hrel
    have hz := hw.size
    by_cases hlt : k < n
    · have hlt' : k < l.length := by rw [hn.out]; exact hlt
      obtain ⟨c0, c1⟩ := wrow_cells HC.out hlt'
      obtain ⟨x, hx⟩ : ∃ x, l[k] = x := ⟨_, rfl⟩
      have HX := Lib.hid hx
      rw [hx] at c0 c1
      obtain ⟨xi, xa⟩ := x
      simp only at c0 c1
      have hbw : Below w.heap.size w wr := hw2.trans (hw.mono z3)
      have d0 := (hbw.cell (p := ⟨b, off + k * 2, none⟩) hbl).trans c0
      have d1 := (hbw.cell (p := ⟨b, off + k * 2 + 1, none⟩) hbl).trans c1
      have k0 : (0 : Int) ≤ (k : Int) := by omega
      have k1 : (k : Int) < (n : Int) := by omega
      have hA5' := hA5 (by omega)
      subst hA5'
      clear c0 c1 hx hA5
      by_cases hd : xa ≤ d
      · have HIn := Lib.hid (cutN_in hlt' (by rw [HX.out]; exact hd))
        have m0 : (1 : Int) ≤ (m : Int) := by omega
        have m1 : (m : Int) ≤ (D : Int) := by omega
        have x0 : (wr.alloc (.cells #[.int .i64 xi, .int .i64 xa] 78)).drew.cell? ⟨wr.heap.size, 0, none⟩ = some (.int .i64 xi) := (Blk.new wr 78 #[.int .i64 xi, .int .i64 xa]).cell 0
        have x1 : (wr.alloc (.cells #[.int .i64 xi, .int .i64 xa] 78)).drew.cell? ⟨wr.heap.size, 1, none⟩ = some (.int .i64 xa) := (Blk.new wr 78 #[.int .i64 xi, .int .i64 xa]).cell 1
        have HWN := Lib.hid hown
        clear hown
        have hO := ((HWN.out.alloc (.cells #[.int .i64 xi, .int .i64 xa] 78)).alloc (.cells #[.int .i64 xi] 3)).drew
        have hR := (Row.reads (n := 1) (Row.drew (Row.of_one (Blk.new2 wr (.cells #[.int .i64 xi, .int .i64 xa] 78) 3 #[.int .i64 xi]))) rfl)
        have HO := Lib.hid hO
        have HR := Lib.hid hR
        clear hO hR
        go_wp2
        go_region_held3 (fun w' => w'.cell? ⟨wr.heap.size, 0, none⟩ = some (.int .i64 xi)) (first | assumption | exact cell_alloc (by assumption)) (first | (refine step_append_any _ rfl _ _ 45 rfl w2.heap.size 3 i0 (.int .i64 0) 1 8 Try.underlying45 I0.out I1.out I2.out I3.out rfl (by decide) _ k _ rfl HO.out _ (some ⟨wr.heap.size + 1, 0, none⟩) 1 1 [.int .i64 xi] rfl HR.out (fun u hu => by simp at hu; subst hu; rfl) (by unfold maxLen; omega) (by omega) (by go_size) ?_; intro v3 w3 ho3 hg3 hq3; clear hq3; have hb3 : Below w2.heap.size w2 w3 := below_grown' (by (repeat' (first | (with_reducible exact Below.refl _ _) | (with_reducible assumption) | (with_reducible refine Below.alloc ?_ ?_ _) | (with_reducible refine below_drewN ?_ _) | (with_reducible refine Below.drew ?_) | (with_reducible refine Below.setCell ?_ ?_ _) | (with_reducible refine below_two ?_ (by with_reducible assumption)) | go_size))) hg3 HO.out (by go_size) (by go_size); have x0' := grown_far wr HWN.out hg3 (p := ⟨wr.heap.size, 0, none⟩) (by go_size) (cell_alloc (o := (.cells #[.int .i64 xi] 3)) x0)))
        have HS := Lib.hid (ids_snoc hlt' HX.out)
        rw [← HS.out] at ho3
        have HC6 : Hid (k + 1 + cutN d (l.drop (k + 1)) = K) := Lib.hid (by have h1 := HC5.out; have h2 := HIn.out; omega)
        have HM : Hid (∀ h : 0 < m - 1, (if D = 1 then some (⟨g, k * 2, none⟩ : Addr) else some ⟨g, k * 2 + 2, none⟩) = some ⟨g, (k + 1) * 2, none⟩) := Lib.hid (fun h => by rw [if_neg (by omega), show k * 2 + 2 = (k + 1) * 2 by omega])
        clear x0 x1 x0' hg3 HIn HS
        go_wp2
        go_roundw
        case rel => exact ⟨k + 1, m - 1, D - 1, _, by omega, by omega, by go_num, rfl, HM.out, ho3, HC6, hb3⟩
        case measure => simp [intOf]; omega
      · have HKk : Hid (K = k) := Lib.hid (by have h1 := HC5.out; rw [cutN_out hlt' (by rw [HX.out]; show d < xa; omega)] at h1; omega)
        go_wp2
        try rw [Exit.noGoto_ret]
        go_ret3
        have hKk := HKk.out
        subst hKk
        have hbx : Below w2.heap.size w2 (wr.alloc (.cells #[.int .i64 xi, .int .i64 xa] 78)) := by (repeat' (first | (with_reducible exact Below.refl _ _) | (with_reducible assumption) | (with_reducible refine Below.alloc ?_ ?_ _) | (with_reducible refine below_drewN ?_ _) | (with_reducible refine Below.drew ?_) | (with_reducible refine Below.setCell ?_ ?_ _) | (with_reducible refine below_two ?_ (by with_reducible assumption)) | go_size))
        refine ⟨_, some ⟨g, K * 2, none⟩, D, ?_, own_below (own_le hown z3) (by (repeat' (first | (with_reducible exact Below.refl _ _) | (with_reducible assumption) | (with_reducible refine Below.alloc ?_ ?_ _) | (with_reducible refine below_drewN ?_ _) | (with_reducible refine Below.drew ?_) | (with_reducible refine Below.setCell ?_ ?_ _) | (with_reducible refine below_two ?_ (by with_reducible assumption)) | go_size))), ?_, by omega, by (repeat' (first | (with_reducible exact Below.refl _ _) | (with_reducible assumption) | (with_reducible refine Below.alloc ?_ ?_ _) | (with_reducible refine below_drewN ?_ _) | (with_reducible refine Below.drew ?_) | (with_reducible refine Below.setCell ?_ ?_ _) | (with_reducible refine below_two ?_ (by with_reducible assumption)) | go_size))⟩
        · rw [show n - K = m by omega]; rfl
        · exact fun _ => ⟨g, K * 2, rfl, by omega, by go_size, fun o => (hbx.frozen (p := ⟨g, o, none⟩) hg2).trans (HO2.out.frozenAt o), fun j u hu => by
              rw [rowV_drop, List.getElem?_drop] at hu
              exact (hbx.cell (p := ⟨g, K * 2 + j, none⟩) hg2).trans (by have := HO2.out.cells (g := g) rfl _ u hu; rwa [addr_add, Nat.zero_add] at this)⟩
    · have HKk : Hid (K = n) := Lib.hid (by have h1 := HC5.out; rw [cutN_end (by rw [hn.out]; omega)] at h1; omega)
      have hm0 : m = 0 := by omega
      have hkn : k = n := by omega
      subst hm0 hkn
      go_wp2
      try rw [Exit.noGoto_ret]
      go_ret3
      have hKk := HKk.out
      subst hKk
      refine ⟨_, A5, D, ?_, own_le hown z3, ?_, by omega, by (repeat' (first | (with_reducible exact Below.refl _ _) | (with_reducible assumption) | (with_reducible refine Below.alloc ?_ ?_ _) | (with_reducible refine below_drewN ?_ _) | (with_reducible refine Below.drew ?_) | (with_reducible refine Below.setCell ?_ ?_ _) | (with_reducible refine below_two ?_ (by with_reducible assumption)) | go_size))⟩
      · rw [Nat.sub_self]; rfl
      · intro h
        rw [List.length_drop, hn.out] at h
        omega

end Go.Proofs.Ytodaknidbdicdaa
