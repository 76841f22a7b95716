/-
  The walks of New, and Try, Back of any path; path.
-/
import Derived.Test.YtnbeofbkfopehaaWalkD
import Derived.Test.YtnbeofbkfopehaaBring
import Derived.Test.YtnbeofbkfopehaaCopyInts
import Derived.WalkKit
import Derived.Deep.DeepMust
import Derived.WalkSpells
import Derived.WalkLawsBesides
import Derived.Handy
import Derived.Lib.Hide
import Derived.Deep.QuietTactic
import Derived.BigQuiet
namespace Go.Proofs.Ytnbeofbkfopehaa
open Go.RowKit

def zeroU : Nat → Int := fun _ => 0
def mostU : Nat → Int := fun _ => 9007199254740991
def someM (i : Nat) : Nat → Int := fun k => if k < i then 9007199254740991 else 0
theorem someM_next (i : Nat) : upd (someM i) i 9007199254740991 = someM (i + 1) := by
  funext k
  unfold upd someM
  by_cases h : k = i
  · subst h; rw [if_pos rfl, if_pos (by omega)]
  · rw [if_neg h]
    by_cases h2 : k < i
    · rw [if_pos h2, if_pos (by omega)]
    · rw [if_neg h2, if_neg (by omega)]
theorem ChAt.congrM {w : World} {b : Nat} {U M M' : Nat → Int} (h : ChAt w b U M) (e : ∀ k, k < 16 → M k = M' k) : ChAt w b U M' := by
  obtain ⟨cs, hB, h1, h2, h3⟩ := h
  exact ⟨cs, hB, h1, h2, fun k hk => ⟨(h3 k hk).1, by rw [(h3 k hk).2, e k hk]⟩⟩
theorem fine_new : Fine zeroU mostU := fun _ _ => ⟨Int.le_refl 0, by unfold zeroU; omega, by unfold mostU; omega, by unfold mostU; omega⟩
theorem chC_new : ChC #[.bool true, .int .i64 0, .int .i64 0, .int .i64 0, .int .i64 0, .int .i64 0, .int .i64 0, .int .i64 0, .int .i64 0, .int .i64 0, .int .i64 0, .int .i64 0, .int .i64 0, .int .i64 0, .int .i64 0, .int .i64 0, .int .i64 0, .int .i64 0, .int .i64 0, .int .i64 0, .int .i64 0, .int .i64 0, .int .i64 0, .int .i64 0, .int .i64 0, .int .i64 0, .int .i64 0, .int .i64 0, .int .i64 0, .int .i64 0, .int .i64 0, .int .i64 0, .int .i64 0] zeroU (someM 0) := by
  refine ⟨rfl, rfl, fun k hk => ?_⟩
  obtain rfl | rfl | rfl | rfl | rfl | rfl | rfl | rfl | rfl | rfl | rfl | rfl | rfl | rfl | rfl | rfl : k = 0 ∨ k = 1 ∨ k = 2 ∨ k = 3 ∨ k = 4 ∨ k = 5 ∨ k = 6 ∨ k = 7 ∨ k = 8 ∨ k = 9 ∨ k = 10 ∨ k = 11 ∨ k = 12 ∨ k = 13 ∨ k = 14 ∨ k = 15 := by omega
  all_goals exact ⟨rfl, rfl⟩

set_option maxRecDepth 100000 in
set_option maxHeartbeats 2000000 in
theorem new_any (w : World) : Calls Try.prog 8 #[] w fun e w' => ∃ b, e = .returned (.pointer (some ⟨b, 0, none⟩)) ∧ ChAt w' b zeroU mostU ∧ w.heap.size ≤ b ∧ Below w.heap.size w w' := by
  go_enter Try.func8, Try.ntmps8
  go_wp2
  have hC : ChAt (w.alloc (.cells #[.bool true, .int .i64 0, .int .i64 0, .int .i64 0, .int .i64 0, .int .i64 0, .int .i64 0, .int .i64 0, .int .i64 0, .int .i64 0, .int .i64 0, .int .i64 0, .int .i64 0, .int .i64 0, .int .i64 0, .int .i64 0, .int .i64 0, .int .i64 0, .int .i64 0, .int .i64 0, .int .i64 0, .int .i64 0, .int .i64 0, .int .i64 0, .int .i64 0, .int .i64 0, .int .i64 0, .int .i64 0, .int .i64 0, .int .i64 0, .int .i64 0, .int .i64 0, .int .i64 0] 45)) w.heap.size zeroU (someM 0) := ⟨_, Blk.new w 45 _, chC_new⟩
  go_loopw [2, 5] (fun _ q wr => ∃ i : Nat, i ≤ 16 ∧ q = .int .i64 i ∧ ChAt wr w.heap.size zeroU (someM i) ∧ Below w.heap.size w wr) (fun _ q _ => 16 - (intOf q).toNat)
  case atStart => exact ⟨0, by omega, rfl, hC, by (repeat' (first | (with_reducible exact Below.refl _ _) | (with_reducible assumption) | (with_reducible refine Below.alloc ?_ ?_ _) | (with_reducible refine below_drewN ?_ _) | (with_reducible refine Below.drew ?_) | (with_reducible refine Below.setCell ?_ ?_ _) | (with_reducible refine below_two ?_ (by with_reducible assumption)) | go_size))⟩
  case round =>
    clear hC
    obtain ⟨i, hi, rfl, hC, hw⟩ := hrel
    by_cases hlt : i < 16
    · have c2 := hC.most hlt
      have f2 := hC.frozen (17 + i)
      have HN := Lib.hid (hC.setMost hlt 9007199254740991)
      rw [someM_next] at HN
      have k0 : (0 : Int) ≤ (i : Int) := by omega
      have k1 : (i : Int) < 16 := by omega
      clear hC
      go_wp2
      go_roundw
      case rel => exact ⟨i + 1, by omega, by go_num, HN.out, hw.setCell (Nat.le_refl _) _⟩
      case measure => simp [intOf]; omega
    · have hi16 : i = 16 := by omega
      subst hi16
      go_wp2
      go_ret
      exact ⟨_, rfl, hC.congrM (fun k hk => by unfold someM mostU; rw [if_pos hk]), Nat.le_refl _, hw⟩

theorem try_err (w : World) (b : Nat) (U M : Nat → Int) (hC : ChAt w b U M) (xs : List Int) (m : Nat) (hm : Hid (xs.length = m)) (hmx : m ≤ 9223372036854775807) (n : Int) (A : Option Addr) (c : Nat) (hR : Row w A (intsV xs)) (e : Int) (he : Hid (askF xs n = e)) (h0 : e ≠ 0) :
    Calls Try.prog 11 #[.pointer (some ⟨b, 0, none⟩), .slice A m c, .int .i64 n] w fun r w' => r = .returned (.tuple #[.int .i64 0, .int .i64 e]) ∧ Below w.heap.size w w' := by
  have HC := Lib.hid ((hC.alloc (.cells #[.pointer (some ⟨b, 0, none⟩)] 23)).alloc (.cells #[.int .i64 n] 3))
  have HR := Lib.hid ((hR.alloc (.cells #[.pointer (some ⟨b, 0, none⟩)] 23)).alloc (.cells #[.int .i64 n] 3))
  have hne : (e != 0) = true := bne_iff_ne.2 h0
  clear hC hR h0
  go_enter_defers Try.func11, Try.ntmps11
  go_wp2_with (first | (go_at_call 23; (with_reducible refine (asked_any _ b U M HC.out xs m hm (by omega) n _ c HR.out e he.out).mono ?_); rintro r w1 ⟨rfl, hb1⟩))
  exact ⟨.tuple #[.int .i64 0, .int .i64 e], by simp [results, Try.results11, go_sem]; try rfl, rfl, by (repeat' (first | (with_reducible exact Below.refl _ _) | (with_reducible assumption) | (with_reducible refine Below.alloc ?_ ?_ _) | (with_reducible refine below_drewN ?_ _) | (with_reducible refine Below.drew ?_) | (with_reducible refine Below.setCell ?_ ?_ _) | (with_reducible refine below_two ?_ (by with_reducible assumption)) | go_size))⟩

/-- A group's path: rising parents of a binary tree. -/
def pathF : Nat → Nat → List Int
  | 0, _ => []
  | f + 1, g => bif decide (g = 0) then [] else (g : Int) :: pathF f (g / 2)
def pathL (h : Nat) : List Int := pathF 5 (h + 1)
theorem pathF_zero (f : Nat) : pathF f 0 = [] := by cases f <;> rfl
theorem pathF_pos (f : Nat) {g : Nat} (h : 0 < g) : pathF (f + 1) g = (g : Int) :: pathF f (g / 2) := by
  show (bif decide (g = 0) then [] else _) = _
  rw [decide_eq_false (by omega)]; rfl
theorem pathF_len : ∀ (f g : Nat), (pathF f g).length ≤ f
  | 0, _ => Nat.le_refl _
  | f + 1, g => by
    rcases Nat.eq_zero_or_pos g with h | h
    · subst h; rw [pathF_zero]; simp
    · rw [pathF_pos f h, List.length_cons]; have := pathF_len f (g / 2); omega
theorem below_grown' {B : Nat} {a w w' : World} {v : Value} {n : Nat} {e : TypeId} {xs : List Value} {base size : Nat} (h : Below B a w) (hg : w.grownBy w' v.ownBlock) (ho : w.ownsRow base e size v n xs) (hB : B ≤ w.heap.size) (hbase : B ≤ base) : Below B a w' := by
  refine below_grown h hg hB fun g hg' => ?_
  rcases ho.2 with ⟨rfl, _⟩ | ⟨g', cap, cur, rfl, hb, _⟩
  · simp [Value.ownBlock] at hg'
  · simp only [Value.ownBlock, Option.some.injEq] at hg'
    omega

set_option maxHeartbeats 2000000 in
theorem path_any (i : Int) (h : Nat) (hh : h < 16) (hi : Hid (i % 16 = (h : Int))) (L : Nat) (hL : Hid ((pathL h).length = L)) (w : World) : Calls Try.prog 12 #[.int .i64 i] w fun e w' =>
    ∃ v, e = .returned v ∧ w'.ownsRow w.heap.size 3 1 v L (intsV (pathL h)) ∧ Below w.heap.size w w' := by
  obtain ⟨i0, hi0, hz0, hz1, hz2⟩ := info_parts Try.infoInt
  have I0 := Lib.hid hi0
  have I1 := Lib.hid hz0
  have I2 := Lib.hid hz1
  have I3 := Lib.hid hz2
  obtain ⟨P, hP⟩ : ∃ P, pathL h = P := ⟨_, rfl⟩
  have HP : Hid ([] ++ pathF 5 (h + 1) = P) := Lib.hid (by rw [← hP]; rfl)
  rw [hP] at hL ⊢
  clear hi0 hz0 hz1 hz2 hP
  go_enter Try.func12, Try.ntmps12
  go_wp2_with (first | (go_at_call 9; with_reducible refine (bring_any i 16 (by omega) (by omega) _).mono ?_; rintro e w0 ⟨rfl, hw0⟩; replace hw0 := hw0.symm; subst hw0; rw [hi.out]))
  go_loopw [0, 3] (fun t r wr => ∃ (f g : Nat) (dn : List Int), t = .int .i64 g ∧ g < 2 ^ f ∧ g ≤ 16 ∧ dn.length + f ≤ 5 ∧ wr.ownsRow w.heap.size 3 1 r dn.length (intsV dn) ∧ Hid (dn ++ pathF f g = P) ∧ Below w.heap.size w wr) (fun t _ _ => (intOf t).toNat)
  case atStart => exact ⟨5, h + 1, [], by go_num, by omega, by omega, by simp, World.ownsRow_nil _ _ _ _, HP, Below.refl _ _⟩
  case round =>
    obtain ⟨f, g, dn, rfl, hgf, hg16, hlen, hown, HPP, hw⟩ := hrel
    have hz := hw.size
    rcases Nat.eq_zero_or_pos g with h0 | hp
    · have HL2 : Hid (dn = P) := Lib.hid (by rw [← HPP.out, h0, pathF_zero, List.append_nil])
      have h1 : ¬ (1 : Int) ≤ (g : Int) := by omega
      clear h0
      go_wp2
      go_ret
      exact ⟨_, rfl, by rw [← hL.out, ← HL2.out]; exact hown, hw⟩
    · obtain ⟨f', rfl⟩ : ∃ f', f = f' + 1 := by
        cases f with
        | zero => simp at hgf; omega
        | succ f' => exact ⟨f', rfl⟩
      have hg2 : g / 2 < 2 ^ f' := by rw [Nat.pow_succ] at hgf; omega
      have HPN : Hid ((dn ++ [(g : Int)]) ++ pathF f' (g / 2) = P) := Lib.hid (by rw [← HPP.out, pathF_pos f' hp, List.append_assoc]; rfl)
      have HO := Lib.hid (hown.alloc (.cells #[.int .i64 (g : Int)] 3))
      have HR := Lib.hid (Row.reads (n := 1) (Row.of_one (Blk.new wr 3 #[.int .i64 (g : Int)])) rfl)
      have g1 : (1 : Int) ≤ (g : Int) := by omega
      clear hown hgf
      go_wp2_with (first | (at_builtin; refine wpList_append_any _ rfl _ _ 27 rfl w.heap.size 3 i0 (.int .i64 0) 1 8 Try.underlying27 I0.out I1.out I2.out I3.out rfl (by decide) _ dn.length _ rfl HO.out _ (some ⟨wr.heap.size, 0, none⟩) 1 1 [.int .i64 (g : Int)] rfl HR.out (fun u hu => by simp at hu; subst hu; rfl) (by unfold maxLen; omega) (by omega) (by go_size) ?_; intro v3 w3 ho3 hg3 hq3; clear hq3; have hb3 : Below w.heap.size w w3 := below_grown' (by (repeat' (first | (with_reducible exact Below.refl _ _) | (with_reducible assumption) | (with_reducible refine Below.alloc ?_ ?_ _) | (with_reducible refine below_drewN ?_ _) | (with_reducible refine Below.drew ?_) | (with_reducible refine Below.setCell ?_ ?_ _) | (with_reducible refine below_two ?_ (by with_reducible assumption)) | go_size))) hg3 HO.out (by go_size) (by go_size)))
      have ho4 : w3.ownsRow w.heap.size 3 1 v3 (dn ++ [(g : Int)]).length (intsV (dn ++ [(g : Int)])) := by
        rw [List.length_append, show intsV (dn ++ [(g : Int)]) = intsV dn ++ [.int .i64 (g : Int)] by simp]
        exact ho3
      go_roundw
      case rel => exact ⟨f', g / 2, dn ++ [(g : Int)], by go_num, hg2, by omega, by rw [List.length_append]; simp; omega, ho4, HPN, hb3⟩
      case measure => simp [intOf]; omega

end Go.Proofs.Ytnbeofbkfopehaa
