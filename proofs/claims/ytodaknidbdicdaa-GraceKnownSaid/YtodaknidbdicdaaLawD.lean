/-
  GraceKnown.
-/
import Derived.Test.YtodaknidbdicdaaLawB
import Derived.Test.YtodaknidbdicdaaNil
import Derived.Test.YtodaknidbdicdaaEndsW
import Derived.WalkKit
import Derived.Deep.DeepMust
import Derived.WalkSpells
import Derived.WalkLawsBesides
import Derived.Handy
import Derived.Lib.Hide
import Derived.Deep.QuietTactic
import Derived.BigQuiet
namespace Go.Proofs.Ytodaknidbdicdaa
open Go.RowKit

theorem Try.infoDo : (Try.prog.info? 36).map (fun i => (i.zero, i.size, i.bytes)) = some (some (.agg #[.int .i64 0, .int .i64 0, .int .i64 0]), 3, 24) := by kernel_rfl
theorem recs_of_row {w : World} {A : Option Addr} {n : Nat} {zs : List Int} (h : Row w A (intsV zs)) (hl : zs.length = n * 3) (h64 : ∀ z ∈ zs, (Lit.int .i64 z).wf = true) : Recs w A n 3 doK (fun i j => zs.getD (i * 3 + j) 0) := fun hp => by
  obtain ⟨g, off, e, hg, hc⟩ := h (by rw [intsV_len]; omega)
  refine ⟨g, off, e, hg, fun i hi j hj => ?_⟩
  have hlt : i * 3 + j < zs.length := by omega
  have h1 : zs.getD (i * 3 + j) 0 = zs[i * 3 + j] := by rw [List.getD_eq_getElem?_getD, List.getElem?_eq_getElem hlt]; rfl
  have ek : doK.getD j .i64 = .i64 := by
    match j, hj with
    | 0, _ | 1, _ | 2, _ => rfl
  refine ⟨?_, by rw [ek]; exact h64 _ (by show zs.getD (i * 3 + j) 0 ∈ zs; rw [h1]; exact List.getElem_mem hlt)⟩
  show w.cell? ⟨g, off + i * 3 + j, none⟩ = some (.int (doK.getD j .i64) (zs.getD (i * 3 + j) 0))
  rw [ek, h1, Nat.add_assoc]
  exact hc (i * 3 + j) _ (intsV_at hlt)
theorem wf_small {x : Int} (h1 : -9223372036854775808 ≤ x) (h2 : x ≤ 9223372036854775807) : (Lit.int .i64 x).wf = true := by
  rw [Lit.wf_int_iff]
  simp [IntKind.min, IntKind.max, IntKind.bits, IntKind.signed]
  exact ⟨h1, h2⟩
theorem own_belowR {B : Nat} {a w w' : World} {v : Value} {n : Nat} {e : TypeId} {xs : List Value} {base size : Nat} (h : Below B a w) (hg : w.grownBy w' v.ownBlock) (ho : w.ownsRow base e size v n xs) (hB : B ≤ w.heap.size) (hbase : B ≤ base) : Below B a w' :=
  below_grown h hg hB (fun g e' => by
    rcases ho.2 with ⟨rfl, -⟩ | ⟨g', cap, cur, rfl, h1, -⟩
    · cases e'
    · have e2 : g' = g := by simpa [Value.ownBlock] using e'
      omega)
theorem intsV_one {zs : List Int} : ∀ u ∈ intsV zs, u.oneCell' = true := fun u hu => by
  obtain ⟨x, -, rfl⟩ := List.mem_map.1 hu
  rfl
theorem intsV_append (xs ys : List Int) : intsV (xs ++ ys) = intsV xs ++ intsV ys := List.map_append
theorem ints_reads {w : World} {g n : Nat} {t : TypeId} {cs : Array Value} {zs : List Int} (h : Blk w g t cs) (e : cs.toList = intsV zs) (hl : zs.length = n * 3) : Reads w w.heap.size 3 (some ⟨g, 0, none⟩) n (intsV zs) :=
  ⟨by rw [intsV_len, hl], fun _ => ⟨_, rfl, h.lt, fun j u hu => by rw [addr_add, Nat.zero_add, h.cell, ← Array.getElem?_toList, e]; exact hu⟩⟩
theorem Row.of_own3 {w : World} {A : Option Addr} {xs : List Value} {base : Nat} {e : TypeId} {n c : Nat} (h : w.ownsRow base e 3 (.slice A n c) n xs) : Row w A xs := fun hp => by
  have hl := h.1
  obtain ⟨g, cap, hv, _, hlt⟩ := h.form (by omega)
  have hA : A = some ⟨g, 0, none⟩ := by injection hv
  subst hA
  refine ⟨g, 0, rfl, hlt, fun j u hu => ?_⟩
  have := h.cells (g := g) rfl j u hu
  rwa [addr_add] at this
theorem Row.slice3 {w : World} {xs : List Value} {base : Nat} {e : TypeId} {v : Value} {n : Nat} (h : w.ownsRow base e 3 v n xs) : ∃ A c, v = .slice A n c ∧ Row w A xs := by
  have h' := h
  obtain ⟨_, ⟨rfl, rfl⟩ | ⟨g, cap, cur, rfl, _⟩⟩ := h
  · exact ⟨none, 0, rfl, Row.of_own3 h'⟩
  · exact ⟨_, cap, rfl, Row.of_own3 h'⟩
theorem all_app {P : Int → Prop} {xs ys : List Int} (h1 : ∀ z ∈ xs, P z) (h2 : ∀ z ∈ ys, P z) : ∀ z ∈ xs ++ ys, P z := fun z hz => (List.mem_append.1 hz).elim (h1 z) (h2 z)
/-- What a round appends. -/
def n4L (i : Int) : List Int := [2, i % 3, 0, 3, i % 2, i, 4, i % 2, 0, 1, 1, 0]
def n8L : List Int := [3, 0, -1, 3, 0, 9007199254740991, 3, 0, 9007199254740992, 3, 9, 0, 4, -1, 0, 0, 8, 0, 1, -1, 0, 2, 8, 0]
def n2L (i : Int) : List Int := [2, i % 3, 0, 4, i % 3, 0]
def n5L : List Int := [2, 0, 0, 4, 0, 0, 2, 0, 0, 4, 0, 0, 3, 0, 0]
theorem n1L_wf : ∀ z ∈ ([0, 1, 0] : List Int), (Lit.int .i64 z).wf = true := fun z hz => by
  simp only [List.mem_cons, List.not_mem_nil, or_false] at hz
  refine wf_small ?_ ?_ <;> omega
theorem n4L_wf {i : Int} (h1 : 0 ≤ i) (h2 : i < 1000) : ∀ z ∈ n4L i, (Lit.int .i64 z).wf = true := fun z hz => by
  unfold n4L at hz
  simp only [List.mem_cons, List.not_mem_nil, or_false] at hz
  refine wf_small ?_ ?_ <;> omega
theorem n8L_wf : ∀ z ∈ n8L, (Lit.int .i64 z).wf = true := fun z hz => by
  unfold n8L at hz
  simp only [List.mem_cons, List.not_mem_nil, or_false] at hz
  refine wf_small ?_ ?_ <;> omega
theorem n2L_wf {i : Int} (_ : 0 ≤ i) (_ : i < 1000) : ∀ z ∈ n2L i, (Lit.int .i64 z).wf = true := fun z hz => by
  unfold n2L at hz
  simp only [List.mem_cons, List.not_mem_nil, or_false] at hz
  refine wf_small ?_ ?_ <;> omega
theorem n5L_wf : ∀ z ∈ n5L, (Lit.int .i64 z).wf = true := fun z hz => by
  unfold n5L at hz
  simp only [List.mem_cons, List.not_mem_nil, or_false] at hz
  refine wf_small ?_ ?_ <;> omega
theorem n3L_wf {i : Int} (h1 : 0 ≤ i) (h2 : i < 1000) : ∀ z ∈ ([3, 0, i] : List Int), (Lit.int .i64 z).wf = true := fun z hz => by
  simp only [List.mem_cons, List.not_mem_nil, or_false] at hz
  refine wf_small ?_ ?_ <;> omega
def manyL : Nat → List Int
  | 0 => []
  | i + 1 => manyL i ++ [3, 0, (i : Int)]
theorem manyL_len : ∀ i, (manyL i).length = i * 3
  | 0 => rfl
  | i + 1 => by unfold manyL; rw [List.length_append, manyL_len i]; show _ + 3 = _; omega
theorem manyL_wf : ∀ i, i ≤ 1000 → ∀ z ∈ manyL i, (Lit.int .i64 z).wf = true
  | 0, _ => fun z hz => by cases hz
  | i + 1, h => all_app (manyL_wf i (by omega)) (n3L_wf (by omega) (by omega))
theorem manyL_at : ∀ (i k : Nat), k < i → (manyL i)[k * 3]? = some 3 ∧ (manyL i)[k * 3 + 1]? = some 0
  | 0, k, h => by omega
  | i + 1, k, h => by
    have hl := manyL_len i
    unfold manyL
    rcases (by omega : k < i ∨ k = i) with h1 | h1
    · rw [List.getElem?_append_left (by omega), List.getElem?_append_left (by omega)]
      exact manyL_at i k h1
    · subst h1
      rw [List.getElem?_append_right (by omega), List.getElem?_append_right (by omega), hl, Nat.sub_self, Nat.add_sub_cancel_left]
      exact ⟨rfl, rfl⟩
theorem Recs.none_ (w : World) (F : Nat → Nat → Int) : Recs w none 0 3 doK F := fun h => by omega


def Bt (w wr : World) (v : Value) (n : Nat) (zs : List Int) : Prop := wr.ownsRow w.heap.size 36 3 v n (intsV zs)
def Wf (zs : List Int) : Prop := ∀ z ∈ zs, (Lit.int .i64 z).wf = true

theorem own_263 {w : World} {B : Nat} {v : Value} {xs : List Value} (h : w.ownsRow B 36 3 v (258 + 5) xs) : w.ownsRow B 36 3 v 263 xs := h
theorem many_row {w : World} {A : Option Addr} (h : Row w A (intsV (manyL 258 ++ n5L))) : ∃ b off, A = some ⟨b, off, none⟩ ∧ b < w.heap.size ∧ ∀ k, k < 200 → w.cell? ⟨b, off + k * 3, none⟩ = some (.int .i64 3) ∧ w.cell? ⟨b, off + k * 3 + 1, none⟩ = some (.int .i64 0) := by
  have hml := manyL_len 258
  obtain ⟨b, off, rfl, hb, hc⟩ := h (by rw [intsV_len, List.length_append, hml]; omega)
  refine ⟨b, off, rfl, hb, fun k hk => ?_⟩
  obtain ⟨h1, h2⟩ := manyL_at 258 k (by omega)
  have f : ∀ j x, (manyL 258)[j]? = some x → w.cell? ⟨b, off + j, none⟩ = some (.int .i64 x) := fun j x hx => hc j _ (by
    have hj := (List.getElem?_eq_some_iff.1 hx).1
    show (List.map _ _)[j]? = _
    rw [List.getElem?_map, List.getElem?_append_left hj, hx]
    rfl)
  exact ⟨f _ _ h1, by rw [Nat.add_assoc]; exact f _ _ h2⟩
theorem own_98 {w : World} {B : Nat} {v : Value} {xs : List Value} (h : w.ownsRow B 36 3 v (58 + 20 * 2) xs) : w.ownsRow B 36 3 v 98 xs := h

set_option maxRecDepth 100000 in
set_option maxHeartbeats 8000000 in
theorem known_any (w : World) : Calls Try.prog 5 #[] w fun e w' => e = .returned (.bool true) ∧ Below w.heap.size w w' := by
  obtain ⟨ti, hi0, hz0, hz1, hz2⟩ := info_parts Try.infoDo
  have J0 := Lib.hid hi0
  have J1 := Lib.hid hz0
  have J2 := Lib.hid hz1
  have J3 := Lib.hid hz2
  clear hi0 hz0 hz1 hz2
  go_enter Try.func5, Try.ntmps5
  go_wp2
  go_loopw [1, 2, 3, 4, 5, 6] (fun v q _ _ _ _ wr => ∃ (i : Nat) (z : Int), z = i ∧ i ≤ 2 ∧ q = .int .i64 z ∧ Hid (IsNone wr v) ∧ Below w.heap.size w wr) (fun _ q _ _ _ _ _ => 2 - (intOf q).toNat)
  case atStart => exact ⟨0, 0, rfl, by omega, rfl, Lib.hid (.inl rfl), Below.refl _ _⟩
  case round =>
    obtain ⟨i, z, hz, hi2, rfl, hN, hB⟩ := hrel
    have i0 : (0 : Int) ≤ (i : Int) := by omega
    by_cases hi : i < 2
    · subst hz
      have i1 : (i : Int) < 2 := by omega
      go_wp2_with (first | (go_at_call 13; (with_reducible refine (poll_none _ _ hN.out (-1)).mono ?_); rintro e wq ⟨rfl, hwq⟩; replace hwq := hwq.symm; subst hwq) | (go_at_call 14; (with_reducible refine (done_none _ _ hN.out).mono ?_); rintro e wq ⟨rfl, hwq⟩; replace hwq := hwq.symm; subst hwq) | (go_at_call 15; (with_reducible refine (lock_none _ _ hN.out (-1)).mono ?_); rintro e wq ⟨rfl, hwq⟩; replace hwq := hwq.symm; subst hwq) | (go_at_call 16; (with_reducible refine (unlock_none _ _ hN.out (-1)).mono ?_); rintro e wq ⟨rfl, hwq⟩; replace hwq := hwq.symm; subst hwq) | (go_at_call 17; (with_reducible refine (quiet_none _ _ hN.out (-1)).mono ?_); rintro e wq ⟨rfl, hwq⟩; replace hwq := hwq.symm; subst hwq) | (go_at_call 18; (with_reducible refine (call_none _ _ hN.out (-1) (-1)).mono ?_); rintro e wq ⟨rfl, hwq⟩; replace hwq := hwq.symm; subst hwq) | (go_at_call 19; (with_reducible refine (depth_none _ _ hN.out 0).mono ?_); rintro e wq ⟨rfl, hwq⟩; replace hwq := hwq.symm; subst hwq) | (go_at_call 9; (with_reducible refine (waits_none _ _ hN.out 0).mono ?_); rintro e wq ⟨rfl, hwq⟩; replace hwq := hwq.symm; subst hwq) | (go_at_call 20; (with_reducible refine (wanted_none _ _ hN.out 0).mono ?_); rintro e wq ⟨rfl, hwq⟩; replace hwq := hwq.symm; subst hwq))
      go_roundw
      case rel => exact ⟨i + 1, (i : Int) + 1, by omega, by omega, by go_num, Lib.hid (.inr ⟨_, rfl, Blk.new _ _ _⟩), hB.alloc hB.size _⟩
      case measure => simp [intOf]; omega
    · clear hN
      obtain rfl : i = 2 := by omega
      obtain rfl : z = 2 := by omega
      clear hz
      go_wp2
      go_loopw [7, 8] (fun v q wr => ∃ (i : Nat) (z : Int) (zs : List Int), z = i ∧ i ≤ 10 ∧ q = .int .i64 z ∧ zs.length = (i) * 3 ∧ Hid (Wf zs) ∧ Hid (wr.ownsRow w.heap.size 36 3 v (i) (intsV zs)) ∧ Below w.heap.size w wr) (fun _ q _ => 10 - (intOf q).toNat)
      case atStart => exact ⟨0, 0, [], rfl, by omega, rfl, rfl, Lib.hid (fun z hz => by cases hz), Lib.hid (World.ownsRow_nil _ _ _ _), hB⟩
      case round =>
        clear hB
        obtain ⟨i, z, zs, hz, hiK, rfl, hlen, h64, HO, hB⟩ := hrel
        have i0 : (0 : Int) ≤ (i : Int) := by omega
        by_cases hi : i < 10
        · subst hz
          have i1 : (i : Int) < 10 := by omega
          have HO1 := Lib.hid (HO.out.alloc (.cells #[.int .i64 0, .int .i64 1, .int .i64 0] 36))
          have HRd := Lib.hid (ints_reads (n := 1) (zs := [0, 1, 0]) (Blk.new wr 36 #[.int .i64 0, .int .i64 1, .int .i64 0]) rfl rfl)
          have hB1 := hB.alloc hB.size (.cells #[.int .i64 0, .int .i64 1, .int .i64 0] 36)
          go_wp2_with (first | (at_builtin; refine wpList_append_any _ rfl _ _ 22 rfl w.heap.size 36 ti (.agg #[.int .i64 0, .int .i64 0, .int .i64 0]) 3 24 Try.underlying22 J0.out J1.out J2.out J3.out rfl (by decide) _ (i) (intsV zs) rfl HO1.out _ (some ⟨wr.heap.size, 0, none⟩) 1 1 (intsV ([0, 1, 0])) rfl HRd.out intsV_one (by unfold maxLen; omega) (by omega) hB1.size ?_; intro v1 w3 ho3 hg3 hq3; clear hq3; rw [← intsV_append] at ho3; have hB3 := own_belowR hB1 hg3 HO1.out hB1.size (Nat.le_refl _)))
          go_roundw
          case rel => exact ⟨i + 1, (i : Int) + 1, zs ++ [0, 1, 0], by omega, by omega, by go_num, by rw [List.length_append, hlen]; show _ + 3 = _; omega, Lib.hid (all_app h64.out n1L_wf), Lib.hid (by rw [show i + 1 = i + 1 by omega]; exact ho3), hB3⟩
          case measure => simp [intOf]; omega
        · obtain rfl : i = 10 := by omega
          obtain rfl : z = 10 := by omega
          clear hz
          go_wp2
          go_loopw [7, 9] (fun v q wr => ∃ (i : Nat) (z : Int) (zs : List Int), z = i ∧ i ≤ 10 ∧ q = .int .i64 z ∧ zs.length = (10 + i * 4) * 3 ∧ Hid (Wf zs) ∧ Hid (wr.ownsRow w.heap.size 36 3 v (10 + i * 4) (intsV zs)) ∧ Below w.heap.size w wr) (fun _ q _ => 10 - (intOf q).toNat)
          case atStart => exact ⟨0, 0, zs, rfl, by omega, rfl, hlen, h64, HO, hB⟩
          case round =>
            clear hB
            obtain ⟨i, z, zs, hz, hiK, rfl, hlen, h64, HO, hB⟩ := hrel
            have i0 : (0 : Int) ≤ (i : Int) := by omega
            by_cases hi : i < 10
            · subst hz
              have i1 : (i : Int) < 10 := by omega
              have HO1 := Lib.hid (HO.out.alloc (.cells #[.int .i64 2, .int .i64 ((i : Int) % 3), .int .i64 0, .int .i64 3, .int .i64 ((i : Int) % 2), .int .i64 (i : Int), .int .i64 4, .int .i64 ((i : Int) % 2), .int .i64 0, .int .i64 1, .int .i64 1, .int .i64 0] 36))
              have HRd := Lib.hid (ints_reads (n := 4) (zs := n4L (i : Int)) (Blk.new wr 36 #[.int .i64 2, .int .i64 ((i : Int) % 3), .int .i64 0, .int .i64 3, .int .i64 ((i : Int) % 2), .int .i64 (i : Int), .int .i64 4, .int .i64 ((i : Int) % 2), .int .i64 0, .int .i64 1, .int .i64 1, .int .i64 0]) rfl rfl)
              have hB1 := hB.alloc hB.size (.cells #[.int .i64 2, .int .i64 ((i : Int) % 3), .int .i64 0, .int .i64 3, .int .i64 ((i : Int) % 2), .int .i64 (i : Int), .int .i64 4, .int .i64 ((i : Int) % 2), .int .i64 0, .int .i64 1, .int .i64 1, .int .i64 0] 36)
              go_wp2_with (first | (at_builtin; refine wpList_append_any _ rfl _ _ 22 rfl w.heap.size 36 ti (.agg #[.int .i64 0, .int .i64 0, .int .i64 0]) 3 24 Try.underlying22 J0.out J1.out J2.out J3.out rfl (by decide) _ (10 + i * 4) (intsV zs) rfl HO1.out _ (some ⟨wr.heap.size, 0, none⟩) 4 4 (intsV (n4L (i : Int))) rfl HRd.out intsV_one (by unfold maxLen; omega) (by omega) hB1.size ?_; intro v1 w3 ho3 hg3 hq3; clear hq3; rw [← intsV_append] at ho3; have hB3 := own_belowR hB1 hg3 HO1.out hB1.size (Nat.le_refl _)))
              go_roundw
              case rel => exact ⟨i + 1, (i : Int) + 1, zs ++ n4L (i : Int), by omega, by omega, by go_num, by rw [List.length_append, hlen]; show _ + 12 = _; omega, Lib.hid (all_app h64.out (n4L_wf i0 (by omega))), Lib.hid (by rw [show 10 + (i + 1) * 4 = 10 + i * 4 + 4 by omega]; exact ho3), hB3⟩
              case measure => simp [intOf]; omega
            · obtain rfl : i = 10 := by omega
              obtain rfl : z = 10 := by omega
              clear hz
              have HO := Lib.hid (HO.out)
              have HO1 := Lib.hid (HO.out.alloc (.cells #[.int .i64 3, .int .i64 0, .int .i64 (-1), .int .i64 3, .int .i64 0, .int .i64 9007199254740991, .int .i64 3, .int .i64 0, .int .i64 9007199254740992, .int .i64 3, .int .i64 9, .int .i64 0, .int .i64 4, .int .i64 (-1), .int .i64 0, .int .i64 0, .int .i64 8, .int .i64 0, .int .i64 1, .int .i64 (-1), .int .i64 0, .int .i64 2, .int .i64 8, .int .i64 0] 36))
              have HRd := Lib.hid (ints_reads (n := 8) (zs := n8L) (Blk.new wr 36 #[.int .i64 3, .int .i64 0, .int .i64 (-1), .int .i64 3, .int .i64 0, .int .i64 9007199254740991, .int .i64 3, .int .i64 0, .int .i64 9007199254740992, .int .i64 3, .int .i64 9, .int .i64 0, .int .i64 4, .int .i64 (-1), .int .i64 0, .int .i64 0, .int .i64 8, .int .i64 0, .int .i64 1, .int .i64 (-1), .int .i64 0, .int .i64 2, .int .i64 8, .int .i64 0]) rfl rfl)
              have hB1 := hB.alloc hB.size (.cells #[.int .i64 3, .int .i64 0, .int .i64 (-1), .int .i64 3, .int .i64 0, .int .i64 9007199254740991, .int .i64 3, .int .i64 0, .int .i64 9007199254740992, .int .i64 3, .int .i64 9, .int .i64 0, .int .i64 4, .int .i64 (-1), .int .i64 0, .int .i64 0, .int .i64 8, .int .i64 0, .int .i64 1, .int .i64 (-1), .int .i64 0, .int .i64 2, .int .i64 8, .int .i64 0] 36)
              go_wp2_with (first | (at_builtin; refine wpList_append_any _ rfl _ _ 22 rfl w.heap.size 36 ti (.agg #[.int .i64 0, .int .i64 0, .int .i64 0]) 3 24 Try.underlying22 J0.out J1.out J2.out J3.out rfl (by decide) _ (10 + 10 * 4) (intsV zs) rfl HO1.out _ (some ⟨wr.heap.size, 0, none⟩) 8 8 (intsV (n8L)) rfl HRd.out intsV_one (by unfold maxLen; omega) (by omega) hB1.size ?_; intro v1 w3 ho3 hg3 hq3; clear hq3; rw [← intsV_append] at ho3; have hB3 := own_belowR hB1 hg3 HO1.out hB1.size (Nat.le_refl _)))
              have h58 := Lib.hid (all_app h64.out n8L_wf)
              have hlen8 : (zs ++ n8L).length = 58 * 3 := by rw [List.length_append, hlen]; rfl
              have HO8 := Lib.hid ho3
              clear ho3 hg3 HO1 HRd hB1 HO hB h64 hlen
              generalize zs ++ n8L = zs8 at hlen8 h58 HO8
              have hB := hB3
              go_loopw [7, 10] (fun v q wr => ∃ (i : Nat) (z : Int) (zs : List Int), z = i ∧ i ≤ 20 ∧ q = .int .i64 z ∧ zs.length = (58 + i * 2) * 3 ∧ Hid (Wf zs) ∧ Hid (wr.ownsRow w.heap.size 36 3 v (58 + i * 2) (intsV zs)) ∧ Below w.heap.size w wr) (fun _ q _ => 20 - (intOf q).toNat)
              case atStart => exact ⟨0, 0, zs8, rfl, by omega, rfl, hlen8, h58, HO8, hB⟩
              case round =>
                clear hB
                obtain ⟨i, z, zs, hz, hiK, rfl, hlen, h64, HO, hB⟩ := hrel
                have i0 : (0 : Int) ≤ (i : Int) := by omega
                by_cases hi : i < 20
                · subst hz
                  have i1 : (i : Int) < 20 := by omega
                  have HO1 := Lib.hid (HO.out.alloc (.cells #[.int .i64 2, .int .i64 ((i : Int) % 3), .int .i64 0, .int .i64 4, .int .i64 ((i : Int) % 3), .int .i64 0] 36))
                  have HRd := Lib.hid (ints_reads (n := 2) (zs := n2L (i : Int)) (Blk.new wr 36 #[.int .i64 2, .int .i64 ((i : Int) % 3), .int .i64 0, .int .i64 4, .int .i64 ((i : Int) % 3), .int .i64 0]) rfl rfl)
                  have hB1 := hB.alloc hB.size (.cells #[.int .i64 2, .int .i64 ((i : Int) % 3), .int .i64 0, .int .i64 4, .int .i64 ((i : Int) % 3), .int .i64 0] 36)
                  go_wp2_with (first | (at_builtin; refine wpList_append_any _ rfl _ _ 22 rfl w.heap.size 36 ti (.agg #[.int .i64 0, .int .i64 0, .int .i64 0]) 3 24 Try.underlying22 J0.out J1.out J2.out J3.out rfl (by decide) _ (58 + i * 2) (intsV zs) rfl HO1.out _ (some ⟨wr.heap.size, 0, none⟩) 2 2 (intsV (n2L (i : Int))) rfl HRd.out intsV_one (by unfold maxLen; omega) (by omega) hB1.size ?_; intro v1 w3 ho3 hg3 hq3; clear hq3; rw [← intsV_append] at ho3; have hB3 := own_belowR hB1 hg3 HO1.out hB1.size (Nat.le_refl _)))
                  go_roundw
                  case rel => exact ⟨i + 1, (i : Int) + 1, zs ++ n2L (i : Int), by omega, by omega, by go_num, by rw [List.length_append, hlen]; show _ + 6 = _; omega, Lib.hid (all_app h64.out (n2L_wf i0 (by omega))), Lib.hid (by rw [show 58 + (i + 1) * 2 = 58 + i * 2 + 2 by omega]; exact ho3), hB3⟩
                  case measure => simp [intOf]; omega
                · obtain rfl : i = 20 := by omega
                  obtain rfl : z = 20 := by omega
                  clear hz
                  have HO := Lib.hid (own_98 HO.out)
                  obtain ⟨A1, c1, rfl, hr1⟩ := Row.slice3 HO.out
                  have hR1 := Lib.hid (recs_of_row (n := 98) hr1 hlen h64.out)
                  generalize (fun i j => zs.getD (i * 3 + j) 0) = F1 at hR1
                  clear hr1 HO hlen h64
                  obtain ⟨wl, hwl⟩ : ∃ wl, wl = wr := ⟨_, rfl⟩
                  rw [← hwl] at hR1 hB ⊢
                  clear hwl
                  have hBw := hB
                  go_wp2
                  go_loopw [11, 12] (fun v q wr => ∃ (i : Nat) (z : Int), z = i ∧ i ≤ 258 ∧ q = .int .i64 z ∧ Hid (wr.ownsRow wl.heap.size 36 3 v i (intsV (manyL i))) ∧ Below wl.heap.size wl wr) (fun _ q _ => 258 - (intOf q).toNat)
                  case atStart => exact ⟨0, 0, rfl, by omega, rfl, Lib.hid (World.ownsRow_nil _ _ _ _), Below.refl _ _⟩
                  case round =>
                    have hB0 := hB
                    clear hB
                    obtain ⟨i, z, hz, hiK, rfl, HO, hB⟩ := hrel
                    have i0 : (0 : Int) ≤ (i : Int) := by omega
                    by_cases hi : i < 258
                    · subst hz
                      have i1 : (i : Int) < 258 := by omega
                      have HO1 := Lib.hid (HO.out.alloc (.cells #[.int .i64 3, .int .i64 0, .int .i64 (i : Int)] 36))
                      have HRd := Lib.hid (ints_reads (n := 1) (zs := [3, 0, (i : Int)]) (Blk.new wr 36 #[.int .i64 3, .int .i64 0, .int .i64 (i : Int)]) rfl rfl)
                      have hB1 := hB.alloc hB.size (.cells #[.int .i64 3, .int .i64 0, .int .i64 (i : Int)] 36)
                      go_wp2_with (first | (at_builtin; refine wpList_append_any _ rfl _ _ 22 rfl wl.heap.size 36 ti (.agg #[.int .i64 0, .int .i64 0, .int .i64 0]) 3 24 Try.underlying22 J0.out J1.out J2.out J3.out rfl (by decide) _ (i) (intsV (manyL i)) rfl HO1.out _ (some ⟨wr.heap.size, 0, none⟩) 1 1 (intsV ([3, 0, (i : Int)])) rfl HRd.out intsV_one (by unfold maxLen; omega) (by omega) hB1.size ?_; intro v1 w3 ho3 hg3 hq3; clear hq3; rw [← intsV_append] at ho3; have hB3 := own_belowR hB1 hg3 HO1.out hB1.size (Nat.le_refl _)))
                      go_roundw
                      case rel => exact ⟨i + 1, (i : Int) + 1, by omega, by omega, by go_num, Lib.hid ho3, hB3⟩
                      case measure => simp [intOf]; omega
                    · obtain rfl : i = 258 := by omega
                      obtain rfl : z = 258 := by omega
                      clear hz
                      have HO1 := Lib.hid (HO.out.alloc (.cells #[.int .i64 2, .int .i64 0, .int .i64 0, .int .i64 4, .int .i64 0, .int .i64 0, .int .i64 2, .int .i64 0, .int .i64 0, .int .i64 4, .int .i64 0, .int .i64 0, .int .i64 3, .int .i64 0, .int .i64 0] 36))
                      have HRd := Lib.hid (ints_reads (n := 5) (zs := n5L) (Blk.new wr 36 #[.int .i64 2, .int .i64 0, .int .i64 0, .int .i64 4, .int .i64 0, .int .i64 0, .int .i64 2, .int .i64 0, .int .i64 0, .int .i64 4, .int .i64 0, .int .i64 0, .int .i64 3, .int .i64 0, .int .i64 0]) rfl rfl)
                      have hB1 := hB.alloc hB.size (.cells #[.int .i64 2, .int .i64 0, .int .i64 0, .int .i64 4, .int .i64 0, .int .i64 0, .int .i64 2, .int .i64 0, .int .i64 0, .int .i64 4, .int .i64 0, .int .i64 0, .int .i64 3, .int .i64 0, .int .i64 0] 36)
                      go_wp2_with (first | (at_builtin; refine wpList_append_any _ rfl _ _ 22 rfl wl.heap.size 36 ti (.agg #[.int .i64 0, .int .i64 0, .int .i64 0]) 3 24 Try.underlying22 J0.out J1.out J2.out J3.out rfl (by decide) _ (258) (intsV (manyL 258)) rfl HO1.out _ (some ⟨wr.heap.size, 0, none⟩) 5 5 (intsV (n5L)) rfl HRd.out intsV_one (by unfold maxLen; omega) (by omega) hB1.size ?_; intro v1 w3 ho3 hg3 hq3; clear hq3; rw [← intsV_append] at ho3; have hB3 := own_belowR hB1 hg3 HO1.out hB1.size (Nat.le_refl _)); obtain ⟨w4, hw4⟩ : ∃ w4, w4 = w3 := ⟨_, rfl⟩; replace ho3 := own_263 ho3; obtain ⟨A2, c2, rfl, hr2⟩ := Row.slice3 ho3; have HRa := Lib.hid (hR1.out.below hB3); have hR2 := Lib.hid (recs_of_row (n := 263) hr2 (by rw [List.length_append, manyL_len]; rfl) (all_app (manyL_wf 258 (by decide)) n5L_wf)); obtain ⟨b2, off2, rfl, hb2, hc2⟩ := many_row hr2; have HC2 := Lib.hid hc2; have hBw3 := hBw.trans (hB3.mono hBw.size); have hC := Below.refl w3.heap.size w3; clear ho3 hg3 HO1 HRd hB1 HO hB hr2 hc2 hB3 hB0; generalize (fun i j => (manyL 258 ++ n5L).getD (i * 3 + j) 0) = F2 at hR2)
                      go_wp2_with (first | (go_at_call 6; (with_reducible refine (works_any _).mono ?_); rintro e wq ⟨rfl, hbq⟩; replace hC := hC.trans (hbq.mono hC.size); clear hbq) | (go_at_call 4; (with_reducible refine (plays_any 0 0 F1 none 0 (by decide) _ (Recs.none_ _ F1)).mono ?_); rintro e wq ⟨rfl, hbq⟩; replace hC := hC.trans (hbq.mono hC.size); clear hbq) | (go_at_call 4; (with_reducible refine (plays_any 9 98 F1 A1 c1 (by decide) _ (HRa.out.below hC)).mono ?_); rintro e wq ⟨rfl, hbq⟩; replace hC := hC.trans (hbq.mono hC.size); clear hbq) | (go_at_call 4; (with_reducible refine (plays_any 2 98 F1 A1 c1 (by decide) _ (HRa.out.below hC)).mono ?_); rintro e wq ⟨rfl, hbq⟩; replace hC := hC.trans (hbq.mono hC.size); clear hbq) | (go_at_call 4; (with_reducible refine (plays_any 3 98 F1 A1 c1 (by decide) _ (HRa.out.below hC)).mono ?_); rintro e wq ⟨rfl, hbq⟩; replace hC := hC.trans (hbq.mono hC.size); clear hbq) | (go_at_call 4; (with_reducible refine (plays_any 8 98 F1 A1 c1 (by decide) _ (HRa.out.below hC)).mono ?_); rintro e wq ⟨rfl, hbq⟩; replace hC := hC.trans (hbq.mono hC.size); clear hbq) | (go_at_call 4; (with_reducible refine (plays_any 1 263 F2 (some ⟨b2, off2, none⟩) c2 (by decide) _ (hR2.out.below hC)).mono ?_); rintro e wq ⟨rfl, hbq⟩; replace hC := hC.trans (hbq.mono hC.size); clear hbq) | (go_at_call 3; (with_reducible refine (waits_law 98 F1 A1 c1 (by decide) _ (HRa.out.below hC)).mono ?_); rintro e wq ⟨rfl, hbq⟩; replace hC := hC.trans (hbq.mono hC.size); clear hbq) | (go_at_call 21; (with_reducible refine (ends_known _ 263 (by omega) (by omega) b2 off2 c2 (Nat.lt_of_lt_of_le hb2 hC.size) (fun k hk => ⟨(hC.cell (p := ⟨b2, off2 + k * 3, none⟩) hb2).trans (HC2.out k hk).1, (hC.cell (p := ⟨b2, off2 + k * 3 + 1, none⟩) hb2).trans (HC2.out k hk).2⟩)).mono ?_); rintro e wq ⟨rfl, hbq⟩; replace hC := hC.trans (hbq.mono hC.size); clear hbq))
                      go_ret
                      exact ⟨rfl, hBw3.trans (hC.mono hBw3.size)⟩

end Go.Proofs.Ytodaknidbdicdaa
