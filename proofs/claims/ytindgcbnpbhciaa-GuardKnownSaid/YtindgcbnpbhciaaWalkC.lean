/-
  The walks of in, Lay, must.
-/
import Derived.Test.YtindgcbnpbhciaaWalkB
import Derived.WalkKit
import Derived.Deep.DeepMust
import Derived.WalkSpells
import Derived.WalkLawsBesides
import Derived.Handy
import Derived.Lib.Hide
import Derived.Deep.QuietTactic
import Derived.BigQuiet
namespace Go.Proofs.Ytindgcbnpbhciaa
open Go.RowKit

/-- Block g begins with these bytes; none of it is frozen. -/
structure RowM (w : World) (g : Nat) (l : List Int) : Prop where
  lt : g < w.heap.size
  cell : ∀ k x, l[k]? = some x → w.cell? ⟨g, k, none⟩ = some (.int .u8 x)
  frz : ∀ o, w.frozen? ⟨g, o, none⟩ = false
section
variable {w w' : World} {g : Nat} {l : List Int}
theorem RowM.row (h : RowM w g l) : Row w (some ⟨g, 0, none⟩) (bV l) := fun _ =>
  ⟨g, 0, rfl, h.lt, fun j u hu => by
    unfold bV at hu
    rw [List.getElem?_map] at hu
    cases hx : l[j]? with
    | none => rw [hx] at hu; cases hu
    | some x =>
      rw [hx] at hu
      simp only [Option.map_some, Option.some.injEq] at hu
      rw [Nat.zero_add, h.cell j x hx, hu]⟩
theorem RowM.below (h : RowM w g l) (hb : Below w.heap.size w w') : RowM w' g l :=
  ⟨Nat.lt_of_lt_of_le h.lt hb.size, fun k x hx => (hb.cell (p := ⟨g, k, none⟩) h.lt).trans (h.cell k x hx), fun o => (hb.frozen (p := ⟨g, o, none⟩) h.lt).trans (h.frz o)⟩
theorem RowM.of_own {base : Nat} {e : TypeId} {n : Nat} {v : Value} (h : w.ownsRow base e 1 v n (bV l)) (hn : 0 < n) : ∃ g c, v = .slice (some ⟨g, 0, none⟩) n c ∧ n ≤ c ∧ base ≤ g ∧ RowM w g l := by
  have hcap : ∀ g' c', v = .slice (some ⟨g', 0, none⟩) n c' → n ≤ c' := fun g' c' e => by
    rcases h.2 with ⟨h1, -⟩ | ⟨g2, cap, cur, h1, _, _, hc, _⟩
    · rw [h1] at e; cases e
    · rw [h1] at e; cases e; exact hc
  obtain ⟨g, c, rfl, hb, hlt⟩ := h.form hn
  refine ⟨g, c, rfl, hcap g c rfl, hb, hlt, fun k x hx => ?_, fun o => h.frozenAt o⟩
  have := h.cells (g := g) rfl k (.int .u8 x) (by unfold bV; rw [List.getElem?_map, hx]; rfl)
  rwa [addr_add, Nat.zero_add] at this
theorem RowM.set (h : RowM w g l) {k : Nat} (hk : k < l.length) (x : Int) : RowM (w.setCell ⟨g, k, none⟩ (.int .u8 x)) g (l.set k x) := by
  refine ⟨by simpa [World.setCell] using h.lt, fun j y hy => ?_, fun o => ?_⟩
  · rw [List.getElem?_set] at hy
    by_cases hj : k = j
    · subst hj
      rw [if_pos rfl, if_pos hk] at hy
      obtain rfl := Option.some.inj hy
      exact World.cell?_setCell_same _ _ _ (h.cell k _ (List.getElem?_eq_getElem hk))
    · rw [if_neg hj] at hy
      rw [World.cell?_setCell_other _ _ _ _ (by intro e; injection e with e1 e2; exact hj e2)]
      exact h.cell j y hy
  · have := h.frz o
    simpa [go_sem] using this
theorem RowM.far (h : RowM w g l) {p : Addr} (hp : g ≠ p.block) (u : Value) : RowM (w.setCell p u) g l := by
  refine ⟨by simpa [World.setCell] using h.lt, fun j y hy => ?_, fun o => ?_⟩
  · rw [World.cell?_setCell_other _ _ _ _ (fun e => hp (by rw [e]))]
    exact h.cell j y hy
  · have := h.frz o
    simpa [go_sem] using this
theorem RowM.drewN (h : RowM w g l) (n : Nat) : RowM (w.drewN n) g l := ⟨h.lt, h.cell, h.frz⟩
theorem RowM.drew (h : RowM w g l) : RowM w.drew g l := ⟨h.lt, h.cell, h.frz⟩
end

/-- What a call hands back: a new block with these bytes. -/
def New (w : World) (l : List Int) (n : Nat) (e : Ending) (w' : World) : Prop := ∃ g c, e = .returned (.slice (some ⟨g, 0, none⟩) n c) ∧ n ≤ c ∧ w.heap.size ≤ g ∧ RowM w' g l ∧ Below w.heap.size w w'
theorem laid_new (n : Nat) (hn : n ≤ 1024) (a o : Int) (z : Int) (hz : (n : Int) = z) (w : World) : Calls Try.prog 24 #[.int .i64 z, .int .u8 a, .int .u8 o] w (New w (layL n a o o) (n + 16)) := by
  subst hz
  refine (laid_any n hn a o w).mono ?_
  rintro e w' ⟨v, rfl, ho, hb⟩
  obtain ⟨g, c, rfl, h0, h1, h2⟩ := RowM.of_own ho (by omega)
  exact ⟨g, c, rfl, h0, h1, h2, hb⟩

theorem in_any (n : Nat) (h1 : 1 ≤ n) (hn : n ≤ 1024) (z : Int) (hz : (n : Int) = z) (w : World) : Calls Try.prog 21 #[.int .i64 z] w (New w (layL n 187 107 165) (n + 16)) := by
  subst hz
  have hset : Hid ((layL n 187 107 107).set (7 + n) 165 = layL n 187 107 165) := Lib.hid (by rw [show 7 + n = 8 + n - 1 by omega]; exact layL_set n h1 187 107 165)
  have hlen := Lib.hid (layL_len n 187 107 107)
  go_enter Try.func21, Try.ntmps21
  have k0 : (0 : Int) ≤ (n : Int) := by omega
  have k1 : (n : Int) ≤ 1024 := by omega
  have HL := Lib.hid (layL_at (a := 187) (o := 107) (l := 107) (show 7 + n < n + 16 by omega))
  have hlt : 7 + n < (layL n 187 107 107).length := by rw [hlen.out]; omega
  go_wp2_with (first | (go_at_call 24; (with_reducible refine (laid_new n hn 187 107 (n : Int) rfl _).mono ?_); rintro e w1 ⟨g, c, rfl, hcp, hg, hM, hb⟩; have c1 := hM.cell (7 + n) _ HL.out; have f1 := hM.frz (7 + n); have hN := hM.set hlt 165; rw [hset.out] at hN; have HN := Lib.hid hN; clear hN hM))
  go_ret
  exact ⟨g, c, rfl, hcp, hg, HN.out, hb.setCell hg _⟩

theorem lay_ok (n : Nat) (h1 : 1 ≤ n) (hn : n ≤ 1024) (w : World) : Calls Try.prog 9 #[.int .i64 (n : Int)] w fun e w' => ∃ g c, e = .returned (.tuple #[.slice (some ⟨g, 0, none⟩) (n + 16) c, .int .i64 0]) ∧ n + 16 ≤ c ∧ w.heap.size ≤ g ∧ RowM w' g (layL n 187 107 165) ∧ Below w.heap.size w w' := by
  have k0 : (1 : Int) ≤ (n : Int) := by omega
  have k1 : (n : Int) ≤ 1024 := by omega
  go_enter Try.func9, Try.ntmps9
  go_wp2_with (first | (go_at_call 21; (with_reducible refine (in_any n h1 hn (n : Int) rfl _).mono ?_); rintro e w1 ⟨g, c, rfl, hcp, hg, hM, hb⟩))
  go_ret2
  exact ⟨g, c, rfl, hcp, hg, hM, hb⟩
theorem lay_no (z : Int) (h : z < 1 ∨ 1024 < z) (w : World) : Calls Try.prog 9 #[.int .i64 z] w fun e w' => e = .returned (.tuple #[.slice none 0 0, .int .i64 2]) ∧ w' = w := by
  rcases h with h | h
  all_goals
    go_enter Try.func9, Try.ntmps9
    go_wp2
    go_ret2
    exact ⟨rfl, rfl⟩

theorem must_ok (xs ys : List Int) (n m g off c b' o' d : Nat) (f : Int) (w : World) (hn : Hid (xs.length = n)) (hm : Hid (ys.length = m)) (hnm : n ≤ m) (hm9 : m ≤ 9223372036854775807) (hA : Hid (∀ j u, (bV xs)[j]? = some u → w.cell? ⟨g, off + j, none⟩ = some u)) (hB : Hid (∀ j u, (bV ys)[j]? = some u → w.cell? ⟨b', o' + j, none⟩ = some u))
    (hq : Hid (∀ k, k < n → xs[k]? = ys[k]?)) : Calls Try.prog 25 #[.slice (some ⟨g, off, none⟩) n c, .slice (some ⟨b', o', none⟩) m d, .int .i64 f] w fun e w' => e = .returned (.tuple #[]) ∧ w' = w := by
  go_enter Try.func25, Try.ntmps25
  go_wp2
  go_loop [6, 7, 10] (fun _ _ i => ∃ k : Nat, k ≤ n ∧ i = .int .i64 k) (fun _ _ i => n - (intOf i).toNat)
  case atStart => exact ⟨0, Nat.zero_le _, rfl⟩
  case round =>
    obtain ⟨k, hk, rfl⟩ := hrel
    by_cases hlt : k < n
    · have hx : k < xs.length := by rw [hn.out]; exact hlt
      have hy : k < ys.length := by rw [hm.out]; omega
      have e := hq.out k hlt
      rw [List.getElem?_eq_getElem hx, List.getElem?_eq_getElem hy] at e
      have e' := Option.some.inj e
      have cA := hA.out k _ (bV_at hx)
      have cB := hB.out k _ (bV_at hy)
      rw [← e'] at cB
      obtain ⟨x, hxx⟩ : ∃ x, xs[k] = x := ⟨_, rfl⟩
      rw [hxx] at cA cB
      have t0 : (x != x) = false := by simp
      have j0 : (0 : Int) ≤ (k : Int) := by omega
      have j1 : (k : Int) < (n : Int) := by omega
      have j2 : (k : Int) < (m : Int) := by omega
      clear e e' hxx hx hy
      go_wp2
      go_round
      case rel => exact ⟨k + 1, by omega, by go_num⟩
      case measure => simp [intOf]; omega
    · go_wp2
      first | go_end0 | refine bodyPost_ret (results_none rfl _ _ _) rfl ?_
      exact ⟨rfl, rfl⟩
theorem must_bad (xs ys : List Int) (n m g off c b' o' d K : Nat) (f : Int) (w : World) (hn : Hid (xs.length = n)) (hm : Hid (ys.length = m)) (hnm : n ≤ m) (hm9 : m ≤ 1040) (hf0 : 0 ≤ f) (hf1 : f ≤ 1040) (hA : Hid (∀ j u, (bV xs)[j]? = some u → w.cell? ⟨g, off + j, none⟩ = some u)) (hB : Hid (∀ j u, (bV ys)[j]? = some u → w.cell? ⟨b', o' + j, none⟩ = some u))
    (hK : K < n) (hq : Hid (∀ k, k < K → xs[k]? = ys[k]?)) (hb : Hid (xs[K]? ≠ ys[K]?)) (z : Int) (hz : f + (K : Int) = z) : Calls Try.prog 25 #[.slice (some ⟨g, off, none⟩) n c, .slice (some ⟨b', o', none⟩) m d, .int .i64 f] w fun e w' => e = .panicked [{ v := .iface 41 (.int .i64 z), recovered := false }] ∧ w' = w := by
  subst hz
  go_enter Try.func25, Try.ntmps25
  go_wp2
  go_loop [6, 7, 10] (fun _ _ i => ∃ k : Nat, k ≤ K ∧ i = .int .i64 k) (fun _ _ i => n - (intOf i).toNat)
  case atStart => exact ⟨0, Nat.zero_le _, rfl⟩
  case round =>
    obtain ⟨k, hk, rfl⟩ := hrel
    have hx : k < xs.length := by rw [hn.out]; omega
    have hy : k < ys.length := by rw [hm.out]; omega
    have cA := hA.out k _ (bV_at hx)
    have cB := hB.out k _ (bV_at hy)
    have j0 : (0 : Int) ≤ (k : Int) := by omega
    have j1 : (k : Int) < (n : Int) := by omega
    have j2 : (k : Int) < (m : Int) := by omega
    by_cases hlt : k < K
    · have e := hq.out k hlt
      rw [List.getElem?_eq_getElem hx, List.getElem?_eq_getElem hy] at e
      have e' := Option.some.inj e
      rw [← e'] at cB
      obtain ⟨x, hxx⟩ : ∃ x, xs[k] = x := ⟨_, rfl⟩
      rw [hxx] at cA cB
      have t0 : (x != x) = false := by simp
      clear e e' hxx hx hy
      go_wp2
      go_round
      case rel => exact ⟨k + 1, by omega, by go_num⟩
      case measure => simp [intOf]; omega
    · obtain rfl : k = K := by omega
      have e := hb.out
      rw [List.getElem?_eq_getElem hx, List.getElem?_eq_getElem hy] at e
      obtain ⟨x, hxx⟩ : ∃ x, xs[k] = x := ⟨_, rfl⟩
      obtain ⟨y, hyy⟩ : ∃ y, ys[k] = y := ⟨_, rfl⟩
      rw [hxx] at cA e
      rw [hyy] at cB e
      have t0 : (x != y) = true := by rw [bne_iff_ne]; intro h; exact e (by rw [h])
      clear e hxx hyy hx hy
      go_wp2
      exact ⟨rfl, rfl, rfl⟩

end Go.Proofs.Ytindgcbnpbhciaa
