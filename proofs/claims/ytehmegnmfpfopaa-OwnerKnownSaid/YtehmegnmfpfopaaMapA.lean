/-
  The map of owners: what its keys are, and how it reads.
-/
import Derived.Maps.RangeWalk
import Derived.DeepKeys4
import Derived.DataShut
import Derived.Test.YtehmegnmfpfopaaRows
import Derived.WalkKit
import Derived.Deep.DeepMust
import Derived.WalkSpells
import Derived.WalkLawsBesides
import Derived.Handy
import Derived.Lib.Hide
import Derived.Deep.QuietTactic
import Derived.BigQuiet
namespace Go.Proofs.Ytehmegnmfpfopaa
open Go.RowKit
open Go.ChangeMaps (setBlock heap_setBlock_same heap_setBlock_other)
open Go.WideElems (Fit rd rg pl rd_val rd_key rg_of)
open Go.Maps (Keyed)

theorem laid_out : laidOutB Try.prog = true := by kernel_rfl
theorem key_row : (54 : TypeId) < Try.prog.types.size := of_decide_eq_true (by kernel_rfl)
theorem key_at : Try.prog.keyTypeAt 2 54 = true := by kernel_rfl
theorem key_wide : (match Try.prog.underlying 54 with | some (.array _ _) | some (.struct _) => true | _ => false) = true := by rw [Try.underlying54]
theorem law : Keyed Try.prog 54 := Keyed.of_law (deep_law_laid laid_out (m := 2) (by omega) key_row key_at key_wide)
theorem key_type : Try.prog.keyType 54 = true := by kernel_rfl
theorem key_cells : Try.prog.cellsOf 54 = 2 := by kernel_rfl
theorem int_cells : Try.prog.cellsOf 3 = 1 := by kernel_rfl
theorem types_size : ∃ n, Try.prog.types.size = n + 2 := ⟨Try.prog.types.size - 2, by have := key_row; have h : (2 : Nat) ≤ Try.prog.types.size := of_decide_eq_true (by kernel_rfl); omega⟩

def w64 (x : Int) : Prop := (Lit.int .i64 x).wf = true
theorem w64_iff {x : Int} : w64 x ↔ -9223372036854775808 ≤ x ∧ x ≤ 9223372036854775807 := by
  unfold w64
  rw [Lit.wf_int_iff]
  simp [IntKind.min, IntKind.max, IntKind.bits, IntKind.signed]

theorem key_of {x y : Int} (hx : w64 x) (hy : w64 y) : ∃ kl, keyOf Try.prog 54 (.agg #[.int .i64 x, .int .i64 y]) = some kl := by
  obtain ⟨n, hn⟩ := types_size
  unfold keyOf
  rw [Try.underlying54]
  refine ⟨.string (keyBytes [.int .i64 x, .int .i64 y]), ?_⟩
  have hf : (Value.agg #[Value.int .i64 x, Value.int .i64 y]).formed Try.prog 54 = true := by simp [Value.formed, Try.underlying54, key_cells]
  have hx' : (Lit.int .i64 x).wf = true := hx
  have hy' : (Lit.int .i64 y).wf = true := hy
  simp [key_type, hf, hn, Program.keyLits, Try.underlying54, Try.underlying3, key_cells, int_cells, Value.cells, List.range_succ, hx', hy']
theorem lits_int {d : Nat} {c : Value} {ls : List Lit} (h : Try.prog.keyLits (d + 1) 3 [c] = some ls) : ∃ x, c = .int .i64 x ∧ w64 x := by
  unfold Program.keyLits at h
  rw [Try.underlying3] at h
  cases c <;> simp at h
  obtain ⟨⟨rfl, h2⟩, -⟩ := h
  exact ⟨_, rfl, h2⟩
theorem key_inv {v : Value} {kl : Lit} (h : keyOf Try.prog 54 v = some kl) : ∃ x y, v = .agg #[.int .i64 x, .int .i64 y] ∧ w64 x ∧ w64 y := by
  obtain ⟨n, hn⟩ := types_size
  unfold keyOf at h
  rw [Try.underlying54] at h
  simp only [key_type, Bool.true_and] at h
  split at h
  · rename_i hf
    cases v <;> simp [Value.formed, Try.underlying54, key_cells] at hf
    rename_i cs
    obtain ⟨l⟩ := cs
    match l, hf with
    | [a, b], _ =>
      have e : Try.prog.keyLits (n + 2 + 1) 54 [a, b] = ((List.range 2).mapM fun i => Try.prog.keyLits (n + 2) 3 (([a, b].drop (i * 1)).take 1)).map List.flatten := by
        rw [Program.keyLits]
        case heq => exact Try.underlying54
        simp [key_cells, int_cells]
      simp only [Value.cells, hn] at h
      rw [e] at h
      obtain ⟨ls, h1, -⟩ := Option.map_eq_some_iff.1 h
      obtain ⟨lss, h2, -⟩ := Option.map_eq_some_iff.1 h1
      cases h3 : Try.prog.keyLits (n + 2) 3 [a] with
      | none => simp [List.range_succ, h3] at h2
      | some la =>
        cases h4 : Try.prog.keyLits (n + 2) 3 [b] with
        | none => simp [List.range_succ, h3, h4] at h2
        | some lb =>
          obtain ⟨x, rfl, hx⟩ := lits_int h3
          obtain ⟨y, rfl, hy⟩ := lits_int h4
          exact ⟨x, y, rfl, hx, hy⟩
  · cases h

/-- What an object reads as. -/
noncomputable def klOf (x y : Int) : Lit := (keyOf Try.prog 54 (.agg #[.int .i64 x, .int .i64 y])).getD (.bool false)
theorem kl_of {x y : Int} (hx : w64 x) (hy : w64 y) : keyOf Try.prog 54 (.agg #[.int .i64 x, .int .i64 y]) = some (klOf x y) := by
  obtain ⟨kl, h⟩ := key_of hx hy
  unfold klOf
  rw [h]; rfl
theorem kl_inj {x y x' y' : Int} (hx : w64 x) (hy : w64 y) (hx' : w64 x') (hy' : w64 y') (h : klOf x y = klOf x' y') : x = x' ∧ y = y' := by
  have h1 := law.inj (kl_of hx hy) (h ▸ kl_of hx' hy')
  simpa using h1
theorem kl_key {x y : Int} (hx : w64 x) (hy : w64 y) : WideAt.IsKeyLit (klOf x y) := law.key (kl_of hx hy)
theorem kl_same {x y x' y' : Int} (hx : w64 x) (hy : w64 y) (hx' : w64 x') (hy' : w64 y') : (klOf x y).sameKey (klOf x' y') = decide (x = x' ∧ y = y') := by
  by_cases h : x = x' ∧ y = y'
  · obtain ⟨rfl, rfl⟩ := h
    rw [WideAt.sameKey_self (kl_key hx hy)]; simp
  · rw [Maps.sameKey_ne (fun e => h (kl_inj hx hy hx' hy' e)), decide_eq_false h]

/-- D reads as F: 0 where there is no entry. -/
def ReadsF (D : DataW Unit) (F : Int → Int → Int) : Prop := ∀ x y, w64 x → w64 y → D.atKey (klOf x y) (.lit (.int .i64 0)) = .lit (.int .i64 (F x y)) ∧ Maps.has D (klOf x y) = decide (F x y ≠ 0)
def putF (F : Int → Int → Int) (x y g : Int) : Int → Int → Int := fun a c => if a = x ∧ c = y then g else F a c
theorem ReadsF.empty : ReadsF (.map []) (fun _ _ => 0) := fun x y _ _ => ⟨rfl, by simp [Maps.has]⟩
theorem ReadsF.put {D : DataW Unit} {F : Int → Int → Int} (h : ReadsF D F) (hD : Maps.IsMap D) {x y g : Int} (hx : w64 x) (hy : w64 y) (hg : g ≠ 0) : ReadsF (D.put (klOf x y) (.lit (.int .i64 g))) (putF F x y g) := fun a c ha hc => by
  unfold putF
  by_cases e : a = x ∧ c = y
  · obtain ⟨rfl, rfl⟩ := e
    rw [if_pos ⟨rfl, rfl⟩, Maps.atKey_put_same hD (kl_key hx hy), Maps.has_put_same hD (kl_key hx hy)]
    exact ⟨rfl, by simp [hg]⟩
  · have hne : klOf a c ≠ klOf x y := fun e' => e (kl_inj ha hc hx hy e')
    rw [if_neg e, Maps.atKey_put_other hne, Maps.has_put_other hne]
    exact h a c ha hc
theorem ReadsF.del {D : DataW Unit} {F : Int → Int → Int} (h : ReadsF D F) {x y : Int} (hx : w64 x) (hy : w64 y) : ReadsF (D.del (klOf x y)) (putF F x y 0) := fun a c ha hc => by
  unfold putF
  by_cases e : a = x ∧ c = y
  · obtain ⟨rfl, rfl⟩ := e
    rw [if_pos ⟨rfl, rfl⟩, Maps.atKey_del_same, Maps.has_del_same]
    exact ⟨rfl, by simp⟩
  · have hne : klOf a c ≠ klOf x y := fun e' => e (kl_inj ha hc hx hy e')
    rw [if_neg e, Maps.atKey_del_other hne, Maps.has_del_other hne]
    exact h a c ha hc

/-- Block b is a map of at most n entries that reads as F. -/
def MapF (w : World) (b n : Nat) (F : Int → Int → Int) : Prop := ∃ D : DataW Unit, w.ownsMap Try.prog 54 (plainElem Try.prog 3) b n D ∧ ReadsF D F
section
variable {w w' : World} {b n : Nat} {F : Int → Int → Int}
theorem MapF.new (w : World) : MapF (w.alloc (.map #[] 0)) w.heap.size 0 (fun _ _ => 0) := ⟨.map [], World.ownsMap_made _ _ _ _, ReadsF.empty⟩
theorem MapF.lt (h : MapF w b n F) : b < w.heap.size := by obtain ⟨D, h1, -⟩ := h; exact h1.lt
theorem MapF.mono (h : MapF w b n F) {n' : Nat} (hn : n ≤ n') : MapF w b n' F := by obtain ⟨D, h1, h2⟩ := h; exact ⟨D, h1.mono hn, h2⟩
theorem MapF.heap (h : MapF w b n F) (e : w'.heap[b]? = w.heap[b]?) : MapF w' b n F := by
  obtain ⟨D, ⟨es, clock, hb, r⟩, h2⟩ := h
  exact ⟨D, ⟨es, clock, e.trans hb, r⟩, h2⟩
theorem MapF.below (h : MapF w b n F) (hb : Below w.heap.size w w') : MapF w' b n F := h.heap (hb.block b h.lt)
theorem MapF.alloc (h : MapF w b n F) (o : Obj) : MapF (w.alloc o) b n F := h.heap (Below.heap_alloc w o b h.lt)
theorem MapF.setCell (h : MapF w b n F) {p : Addr} (hp : b ≠ p.block) (u : Value) : MapF (w.setCell p u) b n F := h.heap (Below.heap_setCell w p u b hp)
theorem MapF.congr (h : MapF w b n F) {G : Int → Int → Int} (e : ∀ x y, w64 x → w64 y → G x y = F x y) : MapF w b n G := by
  obtain ⟨D, h1, h2⟩ := h
  exact ⟨D, h1, fun x y hx hy => by rw [e x y hx hy]; exact h2 x y hx hy⟩
end

theorem int_zero (w : World) : (zeroValue 3).run Try.prog w = .ok (.int .i64 0) w := by kernel_rfl
/-- 'v, ok := m[k]', in whatever world has the block. -/
theorem MapF.look {w : World} {b n : Nat} {F : Int → Int → Int} (h : MapF w b n F) {x y : Int} (hx : w64 x) (hy : w64 y) (w' : World) (e : w'.heap[b]? = w.heap[b]?) :
    (Instr.lookup 45 (.map (some b)) (.agg #[.int .i64 x, .int .i64 y]) true).run Try.prog w' = .ok (.tuple #[.int .i64 (F x y), .bool (decide (F x y ≠ 0))]) w' := by
  obtain ⟨D, h1, h2⟩ := h.heap e
  obtain ⟨v, ps, hrun, hv⟩ := h1.look_ok law Try.underlying45 (int_zero w') (zd := .lit (.int .i64 0)) (plainElem_int Try.underlying3 (by decide)) (kl_of hx hy)
  obtain ⟨e1, e2⟩ := h2 x y hx hy
  rw [e1] at hv
  obtain ⟨c, rfl, hc, hwc⟩ := plainElem_int_inv Try.underlying3 hv
  rw [hrun, e2]
  simp at hc
  rw [hc.1]
theorem MapF.wf {w : World} {b n : Nat} {F : Int → Int → Int} (h : MapF w b n F) {x y : Int} (hx : w64 x) (hy : w64 y) : w64 (F x y) := by
  obtain ⟨D, h1, h2⟩ := h
  obtain ⟨c, hrun, hc, hwc⟩ := h1.lookup_int law Try.underlying45 Try.underlying3 (int_zero w) (kl_of hx hy)
  rw [(h2 x y hx hy).1] at hc
  simp at hc
  rw [hc]; exact hwc
/-- 'm[k]'. -/
theorem MapF.look1 {w : World} {b n : Nat} {F : Int → Int → Int} (h : MapF w b n F) {x y : Int} (hx : w64 x) (hy : w64 y) (w' : World) (e : w'.heap[b]? = w.heap[b]?) :
    (Instr.lookup 45 (.map (some b)) (.agg #[.int .i64 x, .int .i64 y]) false).run Try.prog w' = .ok (.int .i64 (F x y)) w' := by
  obtain ⟨D, h1, h2⟩ := h.heap e
  obtain ⟨c, hrun, hc, hwc⟩ := h1.lookup_int law Try.underlying45 Try.underlying3 (int_zero w') (kl_of hx hy)
  rw [(h2 x y hx hy).1] at hc
  simp at hc
  rw [hrun, hc]

section
variable {w : World} {b n : Nat} {F : Int → Int → Int} {ops : Array Oper} {rest : List Oper} {o : Oper} {a : Act} {Q : Exit → Act → World → Prop}
/-- 'm[k] = g'. -/
theorem wpList_put (hg : o.guard = none) (m x v : Operand) (hop : o.op = Op.mapUpdate 45 m x v) (hm : a.eval m = .map (some b)) (h : MapF w b n F) (hn : n < maxLen) (X Y g : Int)
    (hx : a.eval x = .agg #[.int .i64 X, .int .i64 Y]) (hv : a.eval v = .int .i64 g) (hX : w64 X) (hY : w64 Y) (hg1 : w64 g) (hg0 : g ≠ 0)
    (hK : ∀ w', MapF w' b (n + 1) (putF F X Y g) → w.mapTurned w' b → wpList Try.prog ops Q rest (a.put o.dst undef) w') : wpList Try.prog ops Q (o :: rest) a w := by
  obtain ⟨D, h1, h2⟩ := h
  exact wpList_mapUpdate_in w hg m x v _ hop _ _ law Try.underlying45 _ b n D hm h1 hn _ _ _ hx hv (kl_of hX hY) _ [] (plainElem_int Try.underlying3 hg1) fun w' h3 h4 => hK w' ⟨_, h3, h2.put h1.isMap hX hY hg0⟩ h4
/-- 'delete(m, k)'. -/
theorem wpList_del (hg : o.guard = none) (m x : Operand) (hop : o.op = Op.call { callee := Callee.builtin Builtin.delete, args := #[m, x], argTypes := #[45, 54] }) (hm : a.eval m = .map (some b)) (h : MapF w b n F) (X Y : Int)
    (hx : a.eval x = .agg #[.int .i64 X, .int .i64 Y]) (hX : w64 X) (hY : w64 Y)
    (hK : ∀ w', MapF w' b n (putF F X Y 0) → w.mapTurned w' b → wpList Try.prog ops Q rest (a.put o.dst (.tuple #[])) w') : wpList Try.prog ops Q (o :: rest) a w := by
  obtain ⟨D, h1, h2⟩ := h
  exact wpList_delete_own w hg m x _ _ hop _ law Try.underlying45 _ b n D hm h1 _ _ hx (kl_of hX hY) fun w' h3 h4 => hK w' ⟨_, h3, h2.del hX hY⟩ h4
end

end Go.Proofs.Ytehmegnmfpfopaa
