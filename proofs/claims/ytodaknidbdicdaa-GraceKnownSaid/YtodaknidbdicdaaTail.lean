/-
  A region that draws its order, whose first operations only read (or call what leaves old memory alone), and whose last ones wait for all of the first and come one behind the other: the first are walked once, in the order of the text, then the last.
-/
import Derived.StillTail
import Derived.Test.YtodaknidbdicdaaExt
namespace Go.Proofs.Ytodaknidbdicdaa
open Go.RowKit

section
variable {P : Program} {md : Region.Mode} {ops hd : Array Oper} {Q : Exit → Act → World → Prop}

theorem wpAny_more : ∀ (f : Nat) (listed : Array Bool) (a : Act) (w : World), wpAny P md ops Q f listed a w → wpAny P md ops Q (f + 1) listed a w
  | 0, listed, a, w, h => ⟨fun _ => h.2, fun i hi => by rw [h.1] at hi; cases hi⟩
  | f + 1, listed, a, w, h => ⟨h.1, fun i hi => wpOp_mono (fun a' w' h' => wpAny_more f _ a' w' h') (h.2 i hi)⟩
theorem wpAny_plus {f : Nat} {listed : Array Bool} {a : Act} {w : World} (h : wpAny P md ops Q f listed a w) : ∀ g, wpAny P md ops Q (g + f) listed a w
  | 0 => by rw [Nat.zero_add]; exact h
  | g + 1 => by rw [show g + 1 + f = (g + f) + 1 by omega]; exact wpAny_more _ _ _ _ (wpAny_plus h g)

/-- The first operations stand in both regions alike, and wait only for earlier ones; each of the others waits for all of them. -/
def headB (md : Region.Mode) (ops hd : Array Oper) : Bool :=
  decide (hd.size ≤ ops.size) && ((List.range hd.size).all fun i => match ops[i]? with
    | some o => (o.after.all fun e => !Region.binds md e || decide (e.on < i)) && (match o.guard with | some (j, _) => decide (j < hd.size) | none => true)
    | none => false) &&
  (decide (hd.size < ops.size) && (Region.sinkB md ops hd.size && Region.chainB md ops hd.size))

theorem getD_append_lt {lh r : Array Bool} {i : Nat} {d : Bool} (h : i < lh.size) : (lh ++ r).getD i d = lh.getD i d := by
  simp [Array.getD, h, Array.getElem_append_left, Nat.lt_add_right]
theorem set_append_lt {lh r : Array Bool} {i : Nat} {v : Bool} (h : i < lh.size) : (lh ++ r).setIfInBounds i v = lh.setIfInBounds i v ++ r := by
  apply Array.ext_getElem?
  intro j
  rw [Array.getElem?_setIfInBounds]
  simp only [Array.getElem?_append, Array.size_setIfInBounds, Array.getElem?_setIfInBounds, Array.size_append]
  by_cases hij : i = j
  · subst hij
    simp [h, Nat.lt_add_right]
  · simp [hij]

theorem lift_head {m : Nat} (hB : headB md ops hd = true) (hat : ∀ i, i < hd.size → hd[i]? = ops[i]?) :
    ∀ (f : Nat) (lh : Array Bool) (a : Act) (w : World), lh.size = hd.size → HeadInv md ops hd.size (lh ++ Array.replicate (ops.size - hd.size) false) →
      wpAny P md hd (Exit.then (wpAny P md ops Q m (Array.replicate hd.size true ++ Array.replicate (ops.size - hd.size) false)) Q) f lh a w →
      wpAny P md ops Q (f + m) (lh ++ Array.replicate (ops.size - hd.size) false) a w := by
  simp only [headB, Bool.and_eq_true, decide_eq_true_eq, List.all_eq_true, List.mem_range] at hB
  obtain ⟨⟨hle, hback⟩, hnt, hsink, hchain⟩ := hB
  -- an operation of the head is ready in both or in neither
  have hready : ∀ (lh : Array Bool) (i : Nat), lh.size = hd.size → i < hd.size → (i ∈ Region.ready md ops (lh ++ Array.replicate (ops.size - hd.size) false) ↔ i ∈ Region.ready md hd lh) := by
    intro lh i hs hi
    have hb := hback i hi
    simp only [Region.ready, List.mem_filter, List.mem_range]
    rw [getD_append_lt (by omega), hat i hi]
    have hio : i < ops.size := by omega
    simp only [hi, hio, true_and]
    cases ho : ops[i]? with
    | none => rfl
    | some o =>
      rw [ho] at hb
      simp only [Bool.and_eq_true, Array.all_eq_true_iff_forall_mem] at hb
      have : (o.after.all fun e => !Region.binds md e || (lh ++ Array.replicate (ops.size - hd.size) false).getD e.on false) = (o.after.all fun e => !Region.binds md e || lh.getD e.on false) := by
        rw [Bool.eq_iff_iff, Array.all_eq_true_iff_forall_mem, Array.all_eq_true_iff_forall_mem]
        refine forall_congr' fun e => forall_congr' fun he => ?_
        have h1 := hb.1 e he
        cases hbe : Region.binds md e with
        | false => simp
        | true =>
          simp only [hbe, Bool.not_true, Bool.false_or, decide_eq_true_eq] at h1
          rw [getD_append_lt (by omega)]
      simp only [Option.map_some, Option.getD_some, this]
  -- where none is ready all have come up
  have hall : ∀ (lh : Array Bool), lh.size = hd.size → Region.ready md hd lh = [] → lh = Array.replicate hd.size true := by
    intro lh hs hr
    have key : ∀ i, i < hd.size → lh.getD i true = true := by
      intro i
      induction i using Nat.strongRecOn with
      | _ i ih =>
        intro hi
        cases hl : lh.getD i true with
        | true => rfl
        | false =>
          have : i ∈ Region.ready md hd lh := by
            simp only [Region.ready, List.mem_filter, List.mem_range]
            refine ⟨hi, ?_⟩
            rw [hl, hat i hi]
            have hb := hback i hi
            cases ho : ops[i]? with
            | none => rw [ho] at hb; simp at hb
            | some o =>
              rw [ho] at hb
              simp only [Bool.and_eq_true, Array.all_eq_true_iff_forall_mem] at hb
              simp only [Bool.not_false, Option.map_some, Option.getD_some, Bool.true_and, Array.all_eq_true_iff_forall_mem]
              intro e he
              have h1 := hb.1 e he
              cases hbe : Region.binds md e with
              | false => simp
              | true =>
                simp only [hbe, Bool.not_true, Bool.false_or, decide_eq_true_eq] at h1 ⊢
                have h2 := ih e.on h1 (by omega)
                have hlt : e.on < lh.size := by omega
                simpa [Array.getD, hlt] using h2
          rw [hr] at this
          cases this
    apply Array.ext
    · simp [hs]
    · intro i h1 h2
      have := key i (by omega)
      simpa [Array.getD, h1] using this
  have hupon : ∀ (o : Oper) (a : Act) (w : World) (K : Act → World → Prop) (T : Act → World → Prop), o.wp P a w K (Exit.then T Q) → o.wp P a w K Q := by
    intro o a w K T h
    unfold Oper.wp at *
    generalize (execOp a.eval o).run P w = r at *
    cases r with
    | ok n w' => cases n <;> exact h
    | halt x w' => cases x <;> exact h
  have hop : ∀ (i : Nat) (a : Act) (w : World) (K : Act → World → Prop) (T : Act → World → Prop), i < hd.size → wpOp P hd (Exit.then T Q) i K a w → wpOp P ops Q i K a w := by
    intro i a w K T hi h
    unfold wpOp at *
    rw [hat i hi] at h
    have hb := hback i hi
    cases ho : ops[i]? with
    | none => rw [ho] at h; exact h
    | some o =>
      rw [ho] at h hb
      simp only [Bool.and_eq_true] at hb
      have hy : Region.wanted o (yielded hd a.tmps) = Region.wanted o (yielded ops a.tmps) := by
        unfold Region.wanted
        cases hg : o.guard with
        | none => rfl
        | some g =>
          obtain ⟨j, want⟩ := g
          have hj := hb.2
          rw [hg] at hj
          simp only [decide_eq_true_eq] at hj
          show (yielded hd a.tmps j == some want) = (yielded ops a.tmps j == some want)
          unfold yielded
          rw [hat j hj]
      simp only [hy] at h
      simp only
      split
      · rename_i hw
        rw [if_pos hw] at h
        rcases h with h | h
        · exact .inl (hupon o a w K T h)
        · exact .inr h
      · rename_i hw
        rw [if_neg hw] at h
        exact h
  have hnot : ∀ (lh : Array Bool) (i : Nat), lh.size = hd.size → HeadInv md ops hd.size (lh ++ Array.replicate (ops.size - hd.size) false) → i < hd.size → lh.getD i true = false → ∀ t, hd.size ≤ t → t ∉ Region.ready md ops (lh ++ Array.replicate (ops.size - hd.size) false) :=
    fun lh i hs inv hi hl t ht => tail_waits hsink hchain hnt inv _ i rfl hi (by rw [getD_append_lt (by omega)]; exact hl) t ht
  intro f
  induction f with
  | zero =>
    intro lh a w hs _ h
    rw [hall lh hs h.1, Nat.zero_add]
    exact h.2
  | succ f ih =>
    intro lh a w hs inv h
    obtain ⟨h0, h1⟩ := h
    by_cases hr : Region.ready md hd lh = []
    · have := h0 hr
      rw [hall lh hs hr]
      exact wpAny_plus this _
    · obtain ⟨i, rest, hi⟩ := List.exists_cons_of_ne_nil hr
      have hmem : i ∈ Region.ready md hd lh := by rw [hi]; exact List.mem_cons_self
      obtain ⟨hil, oi, hoi, _⟩ := mem_ready.1 hmem
      have hin : i < hd.size := (Array.getElem?_eq_some_iff.1 hoi).1
      have hfuel : f + 1 + m = (f + m) + 1 := by omega
      rw [hfuel]
      refine ⟨fun hz => ?_, fun j hj => ?_⟩
      · have := (hready lh i hs hin).2 hmem
        rw [hz] at this
        cases this
      · have hjn : j < hd.size := by
          rcases Nat.lt_or_ge j hd.size with h' | h'
          · exact h'
          · exact absurd hj (hnot lh i hs inv hin hil j h')
        have hjr := (hready lh j hs hjn).1 hj
        refine hop j a w _ _ hjn (wpOp_mono (fun a' w' h' => ?_) (h1 j hjr))
        have inv' := inv.set hj hjn
        rw [set_append_lt (by omega)] at inv' ⊢
        exact ih _ a' w' (by simp [hs]) inv' h'

end

/-- The region, in two parts: the first n operations of the text only read and call; what is behind them is walked from whatever world they leave. -/
theorem wp_region_tail {P : Program} {id : Nat} {Q : Exit → Act → World → Prop} {a : Act} {w : World} {l : List Oper} (n B : Nat) (hm : P.follows .mixedOrders = true) (hn : (l.take n).length = n)
    (hB : Region.lexB .any (l.take n).toArray = true) (hH : headB .any l.toArray (l.take n).toArray = true)
    (hS : Region.seqB .any l.toArray (l.drop n).length n (Array.replicate n true ++ Array.replicate (l.length - n) false) = true) (hle : B ≤ w.heap.size)
    (h : (∀ (s : Ext w) (b o : Nat), b < B → s.w.cell? ⟨b, o, none⟩ = w.cell? ⟨b, o, none⟩) → (∀ (s : Ext w) (b o : Nat), b < B → s.w.frozen? ⟨b, o, none⟩ = w.frozen? ⟨b, o, none⟩) →
      (∀ (s : Ext w) (b : Nat), b < B → s.w.heap[b]? = w.heap[b]?) → Nonempty (Ext w) →
      wpQuiet P (l.take n).toArray (fun w' => ∃ s : Ext w, w' = s.w) (fun a' => ∀ w', (∃ s : Ext w, w' = s.w) → wpList P l.toArray Q (l.drop n) a' w') (l.take n) a) : (Code.region id l.toArray true).wp P Q a w := by
  have hq := h (fun s b o hl => s.cell b o (Nat.lt_of_lt_of_le hl hle)) (fun s b o hl => s.frozen b o (Nat.lt_of_lt_of_le hl hle)) (fun s b hl => s.heap b (Nat.lt_of_lt_of_le hl hle)) (Ext.there w)
  clear h
  have hnl : n ≤ l.length := by rw [List.length_take] at hn; omega
  have hdl : (l.drop n).length = l.length - n := List.length_drop
  refine wp_region_any hm ?_
  have hC : (fun w' => ∃ s : Ext w, w' = s.w) { w with drawn := w.drawn + 1 } := ⟨⟨w.drew, (Below.refl _ _).drew⟩, rfl⟩
  have hsz : (l.take n).toArray.size = n := by simpa using hn
  have hat : ∀ i, i < (l.take n).toArray.size → (l.take n).toArray[i]? = l.toArray[i]? := by
    intro i hi
    rw [hsz] at hi
    simp [hi]
  simp only [Region.lexB, Bool.and_eq_true] at hB
  have h1 := wpAnyQ_lex (C := fun w' => ∃ s : Ext w, w' = s.w) (md := .any) hB.1 (l.take n) 0 (Array.replicate (l.take n).toArray.size false) a (by simp) (by simpa using hB.2) hq
  have h2 := wpAny_of_quiet (P := P) (md := .any) (Q := fun a' => ∀ w', (∃ s : Ext w, w' = s.w) → wpList P l.toArray Q (l.drop n) a' w')
    (Q' := Exit.then (wpAny P .any l.toArray Q (l.drop n).length (Array.replicate (l.take n).toArray.size true ++ Array.replicate (l.toArray.size - (l.take n).toArray.size) false)) Q) (fun a' w' hw' ha' => by
      have h3 := ha' w' hw'
      show wpAny P .any l.toArray Q _ _ a' w'
      rw [hsz]
      exact wpAny_of_seq (l.drop n) n _ a' w' (fun j => by simp) (by simpa using hS) h3) _ _ _ _ hC h1
  have inv : HeadInv .any l.toArray (l.take n).toArray.size (Array.replicate (l.take n).toArray.size false ++ Array.replicate (l.toArray.size - (l.take n).toArray.size) false) := by
    rw [Array.replicate_append_replicate]
    refine ⟨by rw [hsz]; simp; omega, fun j oj _ hl => ?_, fun t _ ht => ?_⟩
    · rw [getD_replicate_false] at hl; cases hl
    · refine getD_in (by rw [hsz]; simp at ht ⊢; omega) (getD_replicate_false _ _)
  have h4 := lift_head hH hat _ _ a _ (by simp) inv h2
  have e1 : (l.take n).length + (l.drop n).length = l.toArray.size := by rw [hn, hdl]; simp; omega
  have e2 : (Array.replicate (l.take n).toArray.size false ++ Array.replicate (l.toArray.size - (l.take n).toArray.size) false) = Array.replicate l.toArray.size false := by
    rw [hsz, Array.replicate_append_replicate]
    congr 1
    simp
    omega
  rw [e1, e2] at h4
  exact h4

end Go.Proofs.Ytodaknidbdicdaa
