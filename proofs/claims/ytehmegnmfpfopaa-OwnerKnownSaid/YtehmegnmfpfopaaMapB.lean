/-
  A loop over the map of owners, and a store at a key that is there.
-/
import Derived.Test.YtehmegnmfpfopaaMapA
import Derived.Test.YtehmegnmfpfopaaWorlds
namespace Go.Proofs.Ytehmegnmfpfopaa
open Go.RowKit
open Go.ChangeMaps (setBlock heap_setBlock_same heap_setBlock_other modify_eq_set)
open Go.WideElems (Fit rd rg pl rd_val rd_key rg_of rd_mk other_key)
open Go.Maps (Keyed)

theorem below_grown {B : Nat} {a w w' : World} {row : Option Nat} (h : Below B a w) (hg : w.grownBy w' row) (hB : B ≤ w.heap.size) (hr : ∀ g, row = some g → B ≤ g) : Below B a w' :=
  h.trans ⟨hg.os, hg.tape, hg.output, hg.size, fun k hk => hg.block k (by omega) (fun e => by have := hr k e.symm; omega)⟩
theorem left_count (A : Array MapEntry) (seen : Array Nat) : (leftOf A seen).size = A.toList.countP (fun e => !seen.contains e.born) := by
  unfold leftOf
  rw [← Array.countP_eq_size_filter, Array.countP_toList]

section
variable {H : Type} {P : Program} {k : TypeId} {R : Value → Option (DataW H × List MemPlace)} {w : World} {b r n : Nat} {D : DataW H} {left : Lit → Bool} {cnt : Nat}
/-- 'm[k] = v' in the round, at a key that is there: who is still to come stays so. -/
theorem ranges_store {t e : TypeId} (h : w.ranges P k R b r n D left cnt) (K : Keyed P k) (ht : P.underlying t = some (.map k e)) {key val : Value} {kl : Lit} (hkey : keyOf P k key = some kl) (hin : Maps.has D kl = true) (hn : n < maxLen) {d : DataW H} {ps : List MemPlace} (hv : R val = some (d, ps)) :
    ∃ w', (Instr.mapUpdate t (.map (some b)) key val).run P w = .ok () w' ∧ w'.ranges P k R b r n (D.put kl d) left cnt ∧ w.mapTurned w' b := by
  have hne := h.ne
  obtain ⟨es, clock, since, seen, c0, hb, F, hs, rfl, hr, hold, rfl, hl1, hl2, hsc, hsk⟩ := h
  rcases K.find w hkey es.toList F.keys with ⟨h1, h2⟩ | ⟨j, e0, h1, h2, h3⟩
  · exfalso
    obtain ⟨p, hp, hpk⟩ := List.any_eq_true.1 hin
    obtain ⟨x, hx, rfl⟩ := List.mem_map.1 (mem_sorted.1 hp)
    obtain ⟨y, hy⟩ := F.reads x hx
    have e1 := WideAt.sameKey_eq hpk
    rw [rg_of hy] at e1
    exact h2 x hx (K.inj (rd_key hy) (by rw [e1]; exact hkey))
  · have hj : es[j]? = some e0 := by simpa using h2
    have hm0 : e0 ∈ es.toList := List.mem_of_getElem? h2
    obtain ⟨es', clock', hrun, F', hput, -, -, -⟩ := Maps.fit_store (R' := R) K ht hb F (Nat.lt_of_le_of_lt hs hn) (fun _ _ _ _ hz => hz) hkey hv
    have hrun2 : (Instr.mapUpdate t (.map (some b)) key val).run P w = .ok () (setBlock w b (.map (es.modify j (fun e' => { e' with key := key, val := val })) clock)) := by
      simp [Instr.mapUpdate, run_underlying ht, MapKept.run_getObj_map hb, K.check w false hkey, h1, hj, h3, K.stays w hkey, MapKept.run_setObj_map _ hb, Result.andThen, setBlock]
    have hw : setBlock w b (.map es' clock') = setBlock w b (.map (es.modify j (fun e' => { e' with key := key, val := val })) clock) := by
      rw [hrun] at hrun2
      simpa using hrun2
    have hob : some (Obj.map es' clock') = some (.map (es.modify j (fun e' => { e' with key := key, val := val })) clock) := by
      rw [← heap_setBlock_same hb (.map es' clock'), hw, heap_setBlock_same hb]
    simp only [Option.some.injEq, Obj.map.injEq] at hob
    obtain ⟨rfl, rfl⟩ := hob
    have hlist : (es.modify j (fun e' => { e' with key := key, val := val })).toList = es.toList.set j { e0 with key := key, val := val } := by rw [Array.toList_modify, modify_eq_set _ _ _ _ h2]
    have hjl : j < es.toList.length := (List.getElem?_eq_some_iff.1 h2).1
    have e0new : (rg P k R { e0 with key := key, val := val }).1 = (rg P k R e0).1 := by
      obtain ⟨y0, hy0⟩ := F.reads e0 hm0
      have m0 := rd_key hy0
      rw [h3, hkey] at m0
      rw [rg_of (rd_mk hkey hv), rg_of hy0]
      exact Option.some.inj m0
    have who : ∀ x ∈ es.toList.set j { e0 with key := key, val := val }, ∃ x0 ∈ es.toList, x0.born = x.born ∧ (rg P k R x).1 = (rg P k R x0).1 := by
      intro x hx
      obtain ⟨i, hi, ex⟩ := List.getElem_of_mem hx
      rw [List.getElem_set] at ex
      split at ex
      · subst ex; exact ⟨e0, hm0, rfl, e0new⟩
      · subst ex; exact ⟨_, List.getElem_mem _, rfl, rfl⟩
    have back : ∀ x0 ∈ es.toList, ∃ x ∈ es.toList.set j { e0 with key := key, val := val }, (rg P k R x).1 = (rg P k R x0).1 := by
      intro x0 hx0
      obtain ⟨i, hi, ex⟩ := List.getElem_of_mem hx0
      by_cases hij : j = i
      · subst hij
        have : x0 = e0 := by rw [← ex]; exact (List.getElem?_eq_some_iff.1 h2).2
        subst this
        exact ⟨{ x0 with key := key, val := val }, List.mem_iff_getElem.2 ⟨j, by simpa using hjl, by simp⟩, e0new⟩
      · exact ⟨x0, List.mem_iff_getElem.2 ⟨i, by simpa using hi, by rw [List.getElem_set_ne hij]; exact ex⟩, rfl⟩
    have hsz : (leftOf (es.modify j (fun e' => { e' with key := key, val := val })) seen).size = (leftOf es seen).size := by
      rw [left_count, left_count, hlist]
      have hsp := List.getElem?_eq_some_iff.1 h2
      rw [List.countP_set hsp.1]
      have e1 : es.toList[j] = e0 := hsp.2
      rw [e1]
      have hp : 0 < List.countP (fun e => !seen.contains e.born) es.toList ∨ (!seen.contains e0.born) = false := by
        cases hc : (!seen.contains e0.born)
        · exact .inr rfl
        · exact .inl (List.countP_pos_iff.2 ⟨e0, hm0, hc⟩)
      generalize List.countP (fun e => !seen.contains e.born) es.toList = c at hp ⊢
      show (c - (if (!seen.contains e0.born) = true then 1 else 0)) + (if (!seen.contains e0.born) = true then 1 else 0) = c
      rcases hp with hp | hp
      · split <;> omega
      · rw [hp]; simp
    refine ⟨_, hrun, ⟨_, _, since, seen, c0, heap_setBlock_same hb _, F', by simpa using hs, by rw [DataW.put_eq, hput], (heap_setBlock_other hb _ hne).trans hr, fun x hx => ?_, hsz, fun x hx => ?_, fun x0 hx0 => ?_, hsc, hsk⟩, ⟨es, clock', _, _, hb, rfl⟩⟩
    · rw [hlist] at hx
      obtain ⟨x0, h4, h5, -⟩ := who x hx
      rw [← h5]; exact hold x0 h4
    · rw [hlist] at hx
      obtain ⟨x0, h4, h5, h6⟩ := who x hx
      rw [h6, ← h5]; exact hl1 x0 h4
    · obtain ⟨x, h4, h5⟩ := hl2 x0 hx0
      obtain ⟨x', h6, h7⟩ := back x h4
      exact ⟨x', by rw [hlist]; exact h6, h7.trans h5⟩

/-- .. at the operation. -/
theorem wpList_store_ranges {ops : Array Oper} {rest : List Oper} {o : Oper} {a : Act} {Q : Exit → Act → World → Prop} (hg : o.guard = none) (m x v : Operand) (t : TypeId) (hop : o.op = Op.mapUpdate t m x v) (e : TypeId) (K : Keyed P k) (ht : P.underlying t = some (.map k e))
    (hm : a.eval m = .map (some b)) (h : w.ranges P k R b r n D left cnt) (hn : n < maxLen) (key val : Value) (kl : Lit) (hx : a.eval x = key) (hv : a.eval v = val) (hkey : keyOf P k key = some kl) (hin : Maps.has D kl = true) (d : DataW H) (ps : List MemPlace) (hval : R val = some (d, ps))
    (hK : ∀ w', w'.ranges P k R b r n (D.put kl d) left cnt → w.mapTurned w' b → wpList P ops Q rest (a.put o.dst undef) w') : wpList P ops Q (o :: rest) a w := by
  refine wpList_plain hg fun K' hK' => ?_
  obtain ⟨w', hrun, r1, r2⟩ := ranges_store h K ht hkey hin hn hval
  unfold Oper.wp
  simp [execOp, hop, hm, hx, hv, hrun, Result.andThen]
  exact hK' _ _ (hK w' r1 r2)
end

/-- Object (X, Y) has come. -/
def strike (left : Int → Int → Bool) (X Y : Int) : Int → Int → Bool := fun x y => left x y && !decide (x = X ∧ y = Y)
/-- A loop over the map under way: it reads as F; 'left x y': is the object still to come? -/
def RangeF (w : World) (b r n : Nat) (F : Int → Int → Int) (left : Int → Int → Bool) (cnt : Nat) : Prop :=
  ∃ (D : DataW Unit) (lf : Lit → Bool), w.ranges Try.prog 54 (plainElem Try.prog 3) b r n D lf cnt ∧ ReadsF D F ∧ ∀ x y, w64 x → w64 y → left x y = lf (klOf x y)
section
variable {w w' : World} {b r n : Nat} {F : Int → Int → Int} {left : Int → Int → Bool} {cnt : Nat}
theorem RangeF.owns (h : RangeF w b r n F left cnt) : MapF w b n F := by obtain ⟨D, lf, h1, h2, -⟩ := h; exact ⟨D, h1.owns, h2⟩
theorem RangeF.ne (h : RangeF w b r n F left cnt) : r ≠ b := by obtain ⟨D, lf, h1, -⟩ := h; exact h1.ne
theorem RangeF.lt (h : RangeF w b r n F left cnt) : r < w.heap.size := by obtain ⟨D, lf, h1, -⟩ := h; exact h1.lt
theorem RangeF.left_eq (h : RangeF w b r n F left cnt) : w.rangeLeft b r = cnt := by obtain ⟨D, lf, h1, -⟩ := h; exact h1.left_eq
theorem RangeF.kept (h : RangeF w b r n F left cnt) (e1 : w'.heap[b]? = w.heap[b]?) (e2 : w'.heap[r]? = w.heap[r]?) : RangeF w' b r n F left cnt := by
  obtain ⟨D, lf, ⟨es, clock, since, seen, c0, hb, F1, hs, hD, hr, rest⟩, h2⟩ := h
  exact ⟨D, lf, ⟨es, clock, since, seen, c0, e1.trans hb, F1, hs, hD, e2.trans hr, rest⟩, h2⟩
theorem RangeF.alloc (h : RangeF w b r n F left cnt) (o : Obj) : RangeF (w.alloc o) b r n F left cnt := h.kept (Below.heap_alloc w o b h.owns.lt) (Below.heap_alloc w o r h.lt)
theorem RangeF.below (h : RangeF w b r n F left cnt) (hb : Below w.heap.size w w') : RangeF w' b r n F left cnt := h.kept (hb.block b h.owns.lt) (hb.block r h.lt)
/-- What is still to come is there. -/
theorem RangeF.there (h : RangeF w b r n F left cnt) {x y : Int} (hx : w64 x) (hy : w64 y) (hl : left x y = true) : F x y ≠ 0 := by
  obtain ⟨D, lf, ⟨es, clock, since, seen, c0, hb, F1, hs, rfl, hr, h3, h4, h5, h6, h7⟩, h2, hlf⟩ := h
  rw [hlf x y hx hy] at hl
  obtain ⟨e, he, hk⟩ := h6 _ hl
  have hh : Maps.has (DataW.map ((es.toList.map (rg Try.prog 54 (plainElem Try.prog 3))).foldr DataW.insert [])) (klOf x y) = true :=
    List.any_eq_true.2 ⟨rg Try.prog 54 (plainElem Try.prog 3) e, mem_sorted.2 (List.mem_map.2 ⟨e, he, rfl⟩), by rw [hk]; exact WideAt.sameKey_self (kl_key hx hy)⟩
  rw [(h2 x y hx hy).2] at hh
  simpa using hh
end

section
variable {w : World} {b r n : Nat} {F : Int → Int → Int} {left : Int → Int → Bool} {cnt : Nat} {ops : Array Oper} {rest : List Oper} {o : Oper} {a : Act} {Q : Exit → Act → World → Prop}
/-- 'range m'. -/
theorem wpList_range (hg : o.guard = none) (m : Operand) (hop : o.op = Op.range 45 m) (hm : a.eval m = .map (some b)) (h : MapF w b n F)
    (hK : ∀ w' cnt, RangeF w' b w.heap.size n F (fun x y => decide (F x y ≠ 0)) cnt → Below w.heap.size w w' → w'.heap.size = w.heap.size + 1 → wpList Try.prog ops Q rest (a.put o.dst (.pointer (some ⟨w.heap.size, 0, none⟩))) w') : wpList Try.prog ops Q (o :: rest) a w := by
  obtain ⟨D, h1, h2⟩ := h
  exact wpList_range_own w hg m _ hop _ _ law Try.underlying45 _ b n D hm h1 fun w' h3 h4 h5 => hK w' _ ⟨D, _, h3, h2, fun x y hx hy => ((h2 x y hx hy).2).symm⟩ (below_grown (Below.refl _ _) h4 (Nat.le_refl _) (fun g hg => by cases hg)) h5
/-- The step. -/
theorem wpList_next (hg : o.guard = none) (it : Operand) (hop : o.op = Op.next it false) (hit : a.eval it = .pointer (some ⟨r, 0, none⟩)) (h : RangeF w b r n F left cnt)
    (hDone : (∀ x y, w64 x → w64 y → left x y = false) → wpList Try.prog ops Q rest (a.put o.dst (.tuple #[.bool false])) w)
    (hMore : ∀ (X Y : Int) (w' : World) (cnt' : Nat), w64 X → w64 Y → left X Y = true → RangeF w' b r n F (strike left X Y) cnt' → cnt' < cnt → w.grownBy w' (some r) → w'.heap.size = w.heap.size →
      (Instr.entry (.pointer (some ⟨r, 0, none⟩))).run Try.prog w' = .ok (.tuple #[.agg #[.int .i64 X, .int .i64 Y], .int .i64 (F X Y)]) w' → wpList Try.prog ops Q rest (a.put o.dst (.tuple #[.bool true, .agg #[.int .i64 X, .int .i64 Y], .int .i64 (F X Y)])) w') : wpList Try.prog ops Q (o :: rest) a w := by
  obtain ⟨D, lf, h1, h2, h3⟩ := h
  refine wpList_next_ranges (α := Int × Int) (β := Int) w hg it hop _ law _ (fun p => .agg #[.int .i64 p.1, .int .i64 p.2]) (Value.int .i64) (fun key kl hkey => ?_) (fun v y hv => ?_) b r n D lf cnt hit h1 (fun hc hl => hDone fun x y hx hy => by rw [h3 x y hx hy]; exact hl _) ?_
  · obtain ⟨x, y, rfl, -, -⟩ := key_inv hkey
    exact ⟨(x, y), rfl⟩
  · obtain ⟨c, rfl, -, -⟩ := plainElem_int_inv Try.underlying3 hv
    exact ⟨c, rfl⟩
  · rintro ⟨X, Y⟩ c kl y w' cnt' hkey hl hv hat hrg hlt hgr hsz hen
    obtain ⟨x', y', e, hX, hY⟩ := key_inv hkey
    simp at e
    obtain ⟨rfl, rfl⟩ := e
    have ek : kl = klOf X Y := by rw [kl_of hX hY] at hkey; exact (Option.some.inj hkey).symm
    subst ek
    obtain ⟨c', e, rfl, hwc⟩ := plainElem_int_inv Try.underlying3 hv
    simp at e
    subst e
    have ec : F X Y = c := by
      have h4 := (h2 X Y hX hY).1
      rw [hat] at h4
      simpa using h4.symm
    rw [← ec] at hen ⊢
    refine hMore X Y w' cnt' hX hY (by rw [h3 X Y hX hY]; exact hl) ⟨D, _, hrg, h2, fun x y hx hy => ?_⟩ hlt hgr hsz hen
    show (left x y && _) = _
    rw [h3 x y hx hy, kl_same hx hy hX hY]
/-- 'm[k] = g' in the round, at a key that is there. -/
theorem wpList_restore (hg : o.guard = none) (m x v : Operand) (hop : o.op = Op.mapUpdate 45 m x v) (hm : a.eval m = .map (some b)) (h : RangeF w b r n F left cnt) (hn : n < maxLen) (X Y g : Int)
    (hx : a.eval x = .agg #[.int .i64 X, .int .i64 Y]) (hv : a.eval v = .int .i64 g) (hX : w64 X) (hY : w64 Y) (hg1 : w64 g) (hg0 : g ≠ 0) (hF : F X Y ≠ 0)
    (hK : ∀ w', RangeF w' b r n (putF F X Y g) left cnt → w.mapTurned w' b → wpList Try.prog ops Q rest (a.put o.dst undef) w') : wpList Try.prog ops Q (o :: rest) a w := by
  obtain ⟨D, lf, h1, h2, h3⟩ := h
  exact wpList_store_ranges hg m x v _ hop _ law Try.underlying45 hm h1 hn _ _ _ hx hv (kl_of hX hY) (by rw [(h2 X Y hX hY).2]; exact decide_eq_true hF) _ [] (plainElem_int Try.underlying3 hg1)
    fun w' h4 h5 => hK w' ⟨_, lf, h4, h2.put h1.owns.isMap hX hY hg0, h3⟩ h5
end

end Go.Proofs.Ytehmegnmfpfopaa
