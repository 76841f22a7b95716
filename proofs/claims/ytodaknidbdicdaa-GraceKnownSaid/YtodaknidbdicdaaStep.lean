/-
  A call of both machines: step.
-/
import Derived.Test.YtodaknidbdicdaaRefE
import Derived.Test.YtodaknidbdicdaaBring
import Derived.Test.YtodaknidbdicdaaEqInts
import Derived.WalkKit
import Derived.Deep.DeepMust
import Derived.WalkSpells
import Derived.WalkLawsBesides
import Derived.Handy
import Derived.Lib.Hide
import Derived.Deep.QuietTactic
import Derived.BigQuiet
namespace Go.Proofs.Ytodaknidbdicdaa
open Go.RowKit

def lockI (G : Gr) (x : Int) : Gr × Int := bif decide (0 ≤ x ∧ x < G.C) then lockG G x.toNat else (G, 9)
def unlockI (G : Gr) (x : Int) : Gr × Int := bif decide (0 ≤ x ∧ x < G.C) then unlockG G x.toNat else (G, 9)
def quietI (G : Gr) (x : Int) : Gr × Int := bif decide (0 ≤ x ∧ x < G.C) then quietG G x.toNat else (G, 9)
def callI (G : Gr) (x : Int) (i : Int) : Gr × Int := bif decide (0 ≤ x ∧ x < G.C) then callG G x.toNat i else (G, 9)
def pollI (G : Gr) (x : Int) : Gr := bif decide (0 ≤ x ∧ x < G.C) then pollG G x.toNat else G
def pollL (G : Gr) (x : Int) : List Int := bif decide (0 ≤ x ∧ x < G.C) then polled G x.toNat else []
def pollE (G : Gr) (x : Int) : Int := bif decide (0 ≤ x ∧ x < G.C) then 0 else 9

section
variable {B r da ra na b : Nat} {gs : List Nat} {G : Gr}
theorem lock_any (w : World) (h : GrAt w b gs G) (hI : Inv G) (x : Int) (G1 : Gr) (v : Int) (hv : lockI G x = (G1, v)) : Calls Try.prog 15 #[.pointer (some ⟨b, 0, none⟩), .int .i64 x] w fun e w' =>
    e = .returned (.int .i64 v) ∧ GrAt w' b gs G1 ∧ One b w w' := by
  by_cases hx : 0 ≤ x ∧ x < G.C
  · obtain ⟨k, rfl⟩ := Int.eq_ofNat_of_zero_le hx.1
    have hk : k < G.C := by omega
    unfold lockI at hv
    rw [decide_eq_true hx, cond_true, Int.toNat_natCast] at hv
    have h1 := lock_ok w h hI k hk
    rw [hv] at h1
    exact h1
  · unfold lockI at hv
    rw [decide_eq_false hx, cond_false] at hv
    injection hv with h1 h2
    subst h1 h2
    refine (lock_no w h hI x hx).mono ?_
    rintro e w' ⟨rfl, rfl⟩
    exact ⟨rfl, h, One.refl _ _⟩
theorem rlock_any (w : World) (h : RefIn w B r da ra na gs G) (hI : Inv G) (x : Int) (G1 : Gr) (v : Int) (hv : lockI G x = (G1, v)) : Calls Try.prog 29 #[.pointer (some ⟨r, 0, none⟩), .int .i64 x] w fun e w' =>
    e = .returned (.int .i64 v) ∧ RefIn w' B r da ra na gs G1 ∧ Rws [r, da, ra, na] w w' := by
  by_cases hx : 0 ≤ x ∧ x < G.C
  · obtain ⟨k, rfl⟩ := Int.eq_ofNat_of_zero_le hx.1
    have hk : k < G.C := by omega
    unfold lockI at hv
    rw [decide_eq_true hx, cond_true, Int.toNat_natCast] at hv
    have h1 := rlock_ok w h hI k hk
    rw [hv] at h1
    exact h1
  · unfold lockI at hv
    rw [decide_eq_false hx, cond_false] at hv
    injection hv with h1 h2
    subst h1 h2
    refine (rlock_no w h hI x hx).mono ?_
    rintro e w' ⟨rfl, rfl⟩
    exact ⟨rfl, h, Rws.refl _ _⟩
theorem unlock_any (w : World) (h : GrAt w b gs G) (hI : Inv G) (x : Int) (G1 : Gr) (v : Int) (hv : unlockI G x = (G1, v)) : Calls Try.prog 16 #[.pointer (some ⟨b, 0, none⟩), .int .i64 x] w fun e w' =>
    e = .returned (.int .i64 v) ∧ GrAt w' b gs G1 ∧ One b w w' := by
  by_cases hx : 0 ≤ x ∧ x < G.C
  · obtain ⟨k, rfl⟩ := Int.eq_ofNat_of_zero_le hx.1
    have hk : k < G.C := by omega
    unfold unlockI at hv
    rw [decide_eq_true hx, cond_true, Int.toNat_natCast] at hv
    have h1 := unlock_ok w h hI k hk
    rw [hv] at h1
    exact h1
  · unfold unlockI at hv
    rw [decide_eq_false hx, cond_false] at hv
    injection hv with h1 h2
    subst h1 h2
    refine (unlock_no w h hI x hx).mono ?_
    rintro e w' ⟨rfl, rfl⟩
    exact ⟨rfl, h, One.refl _ _⟩
theorem runlock_any (w : World) (h : RefIn w B r da ra na gs G) (hI : Inv G) (x : Int) (G1 : Gr) (v : Int) (hv : unlockI G x = (G1, v)) : Calls Try.prog 30 #[.pointer (some ⟨r, 0, none⟩), .int .i64 x] w fun e w' =>
    e = .returned (.int .i64 v) ∧ RefIn w' B r da ra na gs G1 ∧ Rws [r, da, ra, na] w w' := by
  by_cases hx : 0 ≤ x ∧ x < G.C
  · obtain ⟨k, rfl⟩ := Int.eq_ofNat_of_zero_le hx.1
    have hk : k < G.C := by omega
    unfold unlockI at hv
    rw [decide_eq_true hx, cond_true, Int.toNat_natCast] at hv
    have h1 := runlock_ok w h hI k hk
    rw [hv] at h1
    exact h1
  · unfold unlockI at hv
    rw [decide_eq_false hx, cond_false] at hv
    injection hv with h1 h2
    subst h1 h2
    refine (runlock_no w h hI x hx).mono ?_
    rintro e w' ⟨rfl, rfl⟩
    exact ⟨rfl, h, Rws.refl _ _⟩
theorem quiet_any (w : World) (h : GrAt w b gs G) (hI : Inv G) (hE : G.E ≤ 1000000) (x : Int) (G1 : Gr) (v : Int) (hv : quietI G x = (G1, v)) : Calls Try.prog 17 #[.pointer (some ⟨b, 0, none⟩), .int .i64 x] w fun e w' =>
    e = .returned (.int .i64 v) ∧ GrAt w' b gs G1 ∧ One b w w' := by
  by_cases hx : 0 ≤ x ∧ x < G.C
  · obtain ⟨k, rfl⟩ := Int.eq_ofNat_of_zero_le hx.1
    have hk : k < G.C := by omega
    unfold quietI at hv
    rw [decide_eq_true hx, cond_true, Int.toNat_natCast] at hv
    have h1 := quiet_ok w h hI hE k hk
    rw [hv] at h1
    exact h1
  · unfold quietI at hv
    rw [decide_eq_false hx, cond_false] at hv
    injection hv with h1 h2
    subst h1 h2
    refine (quiet_no w h hI x hx).mono ?_
    rintro e w' ⟨rfl, rfl⟩
    exact ⟨rfl, h, One.refl _ _⟩
theorem rquiet_any (w : World) (h : RefIn w B r da ra na gs G) (hI : Inv G) (hE : G.E ≤ 1000000) (x : Int) (G1 : Gr) (v : Int) (hv : quietI G x = (G1, v)) : Calls Try.prog 31 #[.pointer (some ⟨r, 0, none⟩), .int .i64 x] w fun e w' =>
    e = .returned (.int .i64 v) ∧ RefIn w' B r da ra na gs G1 ∧ Rws [r, da, ra, na] w w' := by
  by_cases hx : 0 ≤ x ∧ x < G.C
  · obtain ⟨k, rfl⟩ := Int.eq_ofNat_of_zero_le hx.1
    have hk : k < G.C := by omega
    unfold quietI at hv
    rw [decide_eq_true hx, cond_true, Int.toNat_natCast] at hv
    have h1 := rquiet_ok w h hI hE k hk
    rw [hv] at h1
    exact h1
  · unfold quietI at hv
    rw [decide_eq_false hx, cond_false] at hv
    injection hv with h1 h2
    subst h1 h2
    refine (rquiet_no w h hI x hx).mono ?_
    rintro e w' ⟨rfl, rfl⟩
    exact ⟨rfl, h, Rws.refl _ _⟩
theorem call_any (w : World) (h : GrAt w b gs G) (hI : Inv G) (hE : G.E ≤ 1000000) (x i : Int) (G1 : Gr) (v : Int) (hv : callI G x i = (G1, v)) : Calls Try.prog 18 #[.pointer (some ⟨b, 0, none⟩), .int .i64 x, .int .i64 i] w fun e w' =>
    e = .returned (.int .i64 v) ∧ GrAt w' b gs G1 ∧ One b w w' := by
  by_cases hx : 0 ≤ x ∧ x < G.C
  · obtain ⟨k, rfl⟩ := Int.eq_ofNat_of_zero_le hx.1
    have hk : k < G.C := by omega
    unfold callI at hv
    rw [decide_eq_true hx, cond_true, Int.toNat_natCast] at hv
    have h1 := call_ok w h hI hE k hk i
    rw [hv] at h1
    exact h1
  · unfold callI at hv
    rw [decide_eq_false hx, cond_false] at hv
    injection hv with h1 h2
    subst h1 h2
    refine (call_no w h hI x i hx).mono ?_
    rintro e w' ⟨rfl, rfl⟩
    exact ⟨rfl, h, One.refl _ _⟩
theorem rcall_any (w : World) (h : RefIn w B r da ra na gs G) (hI : Inv G) (hE : G.E ≤ 1000000) (x i : Int) (G1 : Gr) (v : Int) (hv : callI G x i = (G1, v)) : Calls Try.prog 32 #[.pointer (some ⟨r, 0, none⟩), .int .i64 x, .int .i64 i] w fun e w' =>
    e = .returned (.int .i64 v) ∧ RefIn w' B r da ra na gs G1 ∧ Rws [r, da, ra, na] w w' := by
  by_cases hx : 0 ≤ x ∧ x < G.C
  · obtain ⟨k, rfl⟩ := Int.eq_ofNat_of_zero_le hx.1
    have hk : k < G.C := by omega
    unfold callI at hv
    rw [decide_eq_true hx, cond_true, Int.toNat_natCast] at hv
    have h1 := rcall_ok w h hI hE k hk i
    rw [hv] at h1
    exact h1
  · unfold callI at hv
    rw [decide_eq_false hx, cond_false] at hv
    injection hv with h1 h2
    subst h1 h2
    refine (rcall_no w h hI x i hx).mono ?_
    rintro e w' ⟨rfl, rfl⟩
    exact ⟨rfl, h, Rws.refl _ _⟩
theorem poll_any (w : World) (h : GrAt w b gs G) (hI : Inv G) (x : Int) (G1 : Gr) (v : Int) (l : List Int) (h1 : pollI G x = G1) (h2 : pollE G x = v) (h3 : pollL G x = l) : Calls Try.prog 13 #[.pointer (some ⟨b, 0, none⟩), .int .i64 x] w fun e w' =>
    ∃ A c, e = .returned (.tuple #[.slice A l.length c, .int .i64 v]) ∧ w'.ownsRow w.heap.size 3 1 (.slice A l.length c) l.length (intsV l) ∧ GrAt w' b gs G1 ∧ One b w w' := by
  subst h1 h2 h3
  by_cases hx : 0 ≤ x ∧ x < G.C
  · obtain ⟨k, rfl⟩ := Int.eq_ofNat_of_zero_le hx.1
    have hk : k < G.C := by omega
    unfold pollI pollE pollL
    rw [decide_eq_true hx, cond_true, cond_true, cond_true, Int.toNat_natCast]
    exact poll_ok w h hI k hk
  · unfold pollI pollE pollL
    rw [decide_eq_false hx, cond_false, cond_false, cond_false]
    refine (poll_no w h hI x hx).mono ?_
    rintro e w' ⟨rfl, rfl⟩
    exact ⟨_, _, rfl, World.ownsRow_nil _ _ _ _, h, One.refl _ _⟩
theorem rpoll_any (w : World) (h : RefIn w B r da ra na gs G) (hI : Inv G) (x : Int) (G1 : Gr) (v : Int) (l : List Int) (h1 : pollI G x = G1) (h2 : pollE G x = v) (h3 : pollL G x = l) : Calls Try.prog 33 #[.pointer (some ⟨r, 0, none⟩), .int .i64 x] w fun e w' =>
    ∃ A c, e = .returned (.tuple #[.slice A l.length c, .int .i64 v]) ∧ w'.ownsRow w.heap.size 3 1 (.slice A l.length c) l.length (intsV l) ∧ RefIn w' B r da ra na gs G1 ∧ Rws [r, da, ra, na] w w' := by
  subst h1 h2 h3
  by_cases hx : 0 ≤ x ∧ x < G.C
  · obtain ⟨k, rfl⟩ := Int.eq_ofNat_of_zero_le hx.1
    have hk : k < G.C := by omega
    unfold pollI pollE pollL
    rw [decide_eq_true hx, cond_true, cond_true, cond_true, Int.toNat_natCast]
    exact rpoll_ok w h hI k hk
  · unfold pollI pollE pollL
    rw [decide_eq_false hx, cond_false, cond_false, cond_false]
    refine (rpoll_no w h hI x hx).mono ?_
    rintro e w' ⟨rfl, rfl⟩
    exact ⟨_, _, rfl, World.ownsRow_nil _ _ _ _, h, Rws.refl _ _⟩

/-- What a call leaves: what is known of it stands, and at most one more period has ended. -/
def Nxt (G G1 : Gr) : Prop := Inv G1 ∧ G1.E ≤ G.E + 1 ∧ G1.C = G.C
theorem lock_nxt (hI : Inv G) {x : Int} {G1 : Gr} {v : Int} (h : lockI G x = (G1, v)) : Nxt G G1 := by
  have e : G1 = (lockI G x).1 := by rw [h]
  subst e
  unfold lockI
  cases decide (0 ≤ x ∧ x < (G.C : Int))
  · exact ⟨hI, Nat.le_succ _, rfl⟩
  · refine ⟨hI.lock, ?_, ?_⟩ <;> (show _ ; unfold lockG; rw [cond_true]; cases decide (G.D x.toNat = 8) <;> first | rfl | exact Nat.le_succ _)
theorem unlock_nxt (hI : Inv G) {x : Int} {G1 : Gr} {v : Int} (h : unlockI G x = (G1, v)) : Nxt G G1 := by
  have e : G1 = (unlockI G x).1 := by rw [h]
  subst e
  unfold unlockI
  cases decide (0 ≤ x ∧ x < (G.C : Int))
  · exact ⟨hI, Nat.le_succ _, rfl⟩
  · refine ⟨hI.unlock, ?_, ?_⟩ <;> (unfold unlockG; rw [cond_true]; cases decide (G.D x.toNat = 0) <;> first | rfl | exact Nat.le_succ _)
theorem quiet_nxt (hI : Inv G) {x : Int} {G1 : Gr} {v : Int} (h : quietI G x = (G1, v)) : Nxt G G1 := by
  have e : G1 = (quietI G x).1 := by rw [h]
  subst e
  unfold quietI
  cases decide (0 ≤ x ∧ x < (G.C : Int))
  · exact ⟨hI, Nat.le_succ _, rfl⟩
  · refine ⟨hI.quiet, ?_, ?_⟩ <;> (unfold quietG; rw [cond_true]; cases decide (0 < G.D x.toNat) <;> cases G.go <;> cases needsG (needG G x.toNat) <;> cases laterG (endG (needG G x.toNat)) <;> first | rfl | exact Nat.le_succ _ | exact Nat.le_refl _)
theorem cal_C : (calG G).1.C = G.C ∧ (calG G).1.E = G.E := by
  unfold calG
  cases G.go <;> exact ⟨rfl, rfl⟩
theorem put_C {k : Nat} {q : List Wt × Int} : (putG G k q).1.C = G.C ∧ (putG G k q).1.E = G.E := by
  unfold putG
  cases decide (q.2 = 0) <;> exact ⟨rfl, rfl⟩
theorem callG_C {k : Nat} {i : Int} : (callG G k i).1.C = G.C ∧ (callG G k i).1.E = G.E := by
  unfold callG
  cases decide (i < 0 ∨ 9007199254740991 < i)
  · cases decide ((G.L k).length = 256)
    · exact ⟨put_C.1.trans cal_C.1, put_C.2.trans cal_C.2⟩
    · exact ⟨rfl, rfl⟩
  · exact ⟨rfl, rfl⟩
theorem call_nxt (hI : Inv G) {x i : Int} {G1 : Gr} {v : Int} (h : callI G x i = (G1, v)) : Nxt G G1 := by
  have e : G1 = (callI G x i).1 := by rw [h]
  subst e
  unfold callI
  cases decide (0 ≤ x ∧ x < (G.C : Int))
  · exact ⟨hI, Nat.le_succ _, rfl⟩
  · exact ⟨hI.call i, by rw [cond_true, callG_C.2]; exact Nat.le_succ _, by rw [cond_true]; exact callG_C.1⟩
theorem poll_nxt (hI : Inv G) {x : Int} {G1 : Gr} (h : pollI G x = G1) : Nxt G G1 := by
  subst h
  unfold pollI
  cases decide (0 ≤ x ∧ x < (G.C : Int))
  · exact ⟨hI, Nat.le_succ _, rfl⟩
  · exact ⟨hI.poll, Nat.le_succ _, rfl⟩

theorem own_rws {w w1 w2 : World} {ws : List Nat} {A : Option Addr} {n c : Nat} {xs : List Value} (h : w1.ownsRow w.heap.size 3 1 (.slice A n c) n xs) (hT : Rws ws w1 w2) (hl : ∀ g ∈ ws, g < w.heap.size) : Row w2 A xs :=
  Row.rws (Row.of_own h) hT (fun hp g off e hm => by
    have hx : xs.length = n := by have := h.1; omega
    obtain ⟨g', cap, hv, hb, -⟩ := h.form (by omega)
    subst e
    injection hv with h1
    injection h1 with h2
    injection h2 with h3
    have := hl g hm
    omega)
/-- Both stand for G; what lay ahead of W is as it was. -/
structure Both (W w : World) (b B r da ra na : Nat) (gs : List Nat) (G : Gr) : Prop where
  gr : GrAt w b gs G
  ref : RefIn w B r da ra na gs G
  inv : Inv G
  low : Below W.heap.size W w
  lb : W.heap.size ≤ b
  lB : W.heap.size ≤ B
def StepPost (W : World) (b B r da ra na : Nat) (gs : List Nat) (G : Gr) (e : Ending) (w' : World) : Prop :=
  e = .returned (.bool true) ∧ ∃ G1, Nxt G G1 ∧ Both W w' b B r da ra na gs G1
set_option maxRecDepth 100000 in
set_option maxHeartbeats 4000000 in
theorem step_lock (W w : World) (h : Both W w b B r da ra na gs G) (_ : G.E ≤ 1000000) (K X I : Int) (hK : Hid (K % 5 = 0)) :
    Calls Try.prog 11 #[.pointer (some ⟨b, 0, none⟩), .pointer (some ⟨r, 0, none⟩), .agg #[.int .i64 K, .int .i64 X, .int .i64 I]] w (StepPost W b B r da ra na gs G) := by
  obtain ⟨hO, hR, hI, hB, lb, lB⟩ := h
  have HI := Lib.hid hI
  have hfar := Lib.hid (hR.far hO)
  have hmem := Lib.hid hO.mem
  have hws := Lib.hid hR.ws
  have hlow := Lib.hid (fun g (hg : g ∈ [r, da, ra, na]) => Nat.le_trans lB (hR.base g hg))
  have hpb : w.heap.size ≠ b := by have := hO.lt; omega
  have hpg : w.heap.size ∉ [r, da, ra, na] := fun hm => Nat.lt_irrefl _ (hR.lt _ hm)
  have hX := Blk.new w 36 #[.int .i64 K, .int .i64 X, .int .i64 I]
  have hO := hO.alloc (.cells #[.int .i64 K, .int .i64 X, .int .i64 I] 36)
  have hR := hR.below ((Below.refl _ _).alloc (Nat.le_refl _) (.cells #[.int .i64 K, .int .i64 X, .int .i64 I] 36))
  have hB := hB.alloc hB.size (.cells #[.int .i64 K, .int .i64 X, .int .i64 I] 36)
  obtain ⟨G1, v, hv⟩ : ∃ G1 v, lockI G X = (G1, v) := ⟨_, _, rfl⟩
  have HV := Lib.hid hv
  have HN := Lib.hid (lock_nxt hI hv)
  have hvv : (v == v) = true := beq_self_eq_true v
  clear hv hI
  go_enter Try.func11, Try.ntmps11
  go_wp2_with (first | (go_at_call 24; (with_reducible refine (bring_any K 5 (by omega) (by omega) _).mono ?_); rintro e w0 ⟨rfl, hw0⟩; replace hw0 := hw0.symm; subst hw0; rw [hK.out]))
  have hO := hO.drew
  have hR := hR.drew
  have hX := hX.drew
  have hB := hB.drew
  have x1 : World.cell? _ ⟨w.heap.size, 1, none⟩ = some (.int .i64 X) := hX.cell 1
  have x2 : World.cell? _ ⟨w.heap.size, 2, none⟩ = some (.int .i64 I) := hX.cell 2
  go_region_held3 (fun w' => w'.cell? ⟨w.heap.size, 1, none⟩ = some (.int .i64 X) ∧ w'.cell? ⟨w.heap.size, 2, none⟩ = some (.int .i64 I)) (exact ⟨by assumption, by assumption⟩) (first | (go_at_call 15; (with_reducible refine (lock_any _ hO HI.out X G1 v HV.out).mono ?_); rintro e w3 ⟨rfl, hN, hT⟩; replace hB := hT.below hB lb hB.size; replace hX := hX.one hT hpb; replace hR := hR.one hT hfar.out hmem.out; clear hT hO; have hO := hN; clear hN; have y1 : w3.cell? ⟨w.heap.size, 1, none⟩ = some (.int .i64 X) := hX.cell 1; have y2 : w3.cell? ⟨w.heap.size, 2, none⟩ = some (.int .i64 I) := hX.cell 2) | (go_at_call 29; (with_reducible refine (rlock_any _ hR HI.out X G1 v HV.out).mono ?_); rintro e w4 ⟨rfl, hN, hT⟩; replace hB := hT.below hB hlow.out hB.size; replace hX := hX.rws hT hpg; replace hO := hO.rws hT hfar.out hws.out; clear hT hR; have hR := hN; clear hN; have y1 : w4.cell? ⟨w.heap.size, 1, none⟩ = some (.int .i64 X) := hX.cell 1; have y2 : w4.cell? ⟨w.heap.size, 2, none⟩ = some (.int .i64 I) := hX.cell 2))
  all_goals go_wp2
  all_goals go_ret
  all_goals exact ⟨rfl, G1, HN.out, hO, hR, HN.out.1, hB, lb, lB⟩
set_option maxRecDepth 100000 in
set_option maxHeartbeats 4000000 in
theorem step_unlock (W w : World) (h : Both W w b B r da ra na gs G) (_ : G.E ≤ 1000000) (K X I : Int) (hK : Hid (K % 5 = 1)) :
    Calls Try.prog 11 #[.pointer (some ⟨b, 0, none⟩), .pointer (some ⟨r, 0, none⟩), .agg #[.int .i64 K, .int .i64 X, .int .i64 I]] w (StepPost W b B r da ra na gs G) := by
  obtain ⟨hO, hR, hI, hB, lb, lB⟩ := h
  have HI := Lib.hid hI
  have hfar := Lib.hid (hR.far hO)
  have hmem := Lib.hid hO.mem
  have hws := Lib.hid hR.ws
  have hlow := Lib.hid (fun g (hg : g ∈ [r, da, ra, na]) => Nat.le_trans lB (hR.base g hg))
  have hpb : w.heap.size ≠ b := by have := hO.lt; omega
  have hpg : w.heap.size ∉ [r, da, ra, na] := fun hm => Nat.lt_irrefl _ (hR.lt _ hm)
  have hX := Blk.new w 36 #[.int .i64 K, .int .i64 X, .int .i64 I]
  have hO := hO.alloc (.cells #[.int .i64 K, .int .i64 X, .int .i64 I] 36)
  have hR := hR.below ((Below.refl _ _).alloc (Nat.le_refl _) (.cells #[.int .i64 K, .int .i64 X, .int .i64 I] 36))
  have hB := hB.alloc hB.size (.cells #[.int .i64 K, .int .i64 X, .int .i64 I] 36)
  obtain ⟨G1, v, hv⟩ : ∃ G1 v, unlockI G X = (G1, v) := ⟨_, _, rfl⟩
  have HV := Lib.hid hv
  have HN := Lib.hid (unlock_nxt hI hv)
  have hvv : (v == v) = true := beq_self_eq_true v
  clear hv hI
  go_enter Try.func11, Try.ntmps11
  go_wp2_with (first | (go_at_call 24; (with_reducible refine (bring_any K 5 (by omega) (by omega) _).mono ?_); rintro e w0 ⟨rfl, hw0⟩; replace hw0 := hw0.symm; subst hw0; rw [hK.out]))
  have hO := hO.drew
  have hR := hR.drew
  have hX := hX.drew
  have hB := hB.drew
  have x1 : World.cell? _ ⟨w.heap.size, 1, none⟩ = some (.int .i64 X) := hX.cell 1
  have x2 : World.cell? _ ⟨w.heap.size, 2, none⟩ = some (.int .i64 I) := hX.cell 2
  go_region_held3 (fun w' => w'.cell? ⟨w.heap.size, 1, none⟩ = some (.int .i64 X) ∧ w'.cell? ⟨w.heap.size, 2, none⟩ = some (.int .i64 I)) (exact ⟨by assumption, by assumption⟩) (first | (go_at_call 16; (with_reducible refine (unlock_any _ hO HI.out X G1 v HV.out).mono ?_); rintro e w3 ⟨rfl, hN, hT⟩; replace hB := hT.below hB lb hB.size; replace hX := hX.one hT hpb; replace hR := hR.one hT hfar.out hmem.out; clear hT hO; have hO := hN; clear hN; have y1 : w3.cell? ⟨w.heap.size, 1, none⟩ = some (.int .i64 X) := hX.cell 1; have y2 : w3.cell? ⟨w.heap.size, 2, none⟩ = some (.int .i64 I) := hX.cell 2) | (go_at_call 30; (with_reducible refine (runlock_any _ hR HI.out X G1 v HV.out).mono ?_); rintro e w4 ⟨rfl, hN, hT⟩; replace hB := hT.below hB hlow.out hB.size; replace hX := hX.rws hT hpg; replace hO := hO.rws hT hfar.out hws.out; clear hT hR; have hR := hN; clear hN; have y1 : w4.cell? ⟨w.heap.size, 1, none⟩ = some (.int .i64 X) := hX.cell 1; have y2 : w4.cell? ⟨w.heap.size, 2, none⟩ = some (.int .i64 I) := hX.cell 2))
  all_goals go_wp2
  all_goals go_ret
  all_goals exact ⟨rfl, G1, HN.out, hO, hR, HN.out.1, hB, lb, lB⟩
set_option maxRecDepth 100000 in
set_option maxHeartbeats 4000000 in
theorem step_quiet (W w : World) (h : Both W w b B r da ra na gs G) (hE : G.E ≤ 1000000) (K X I : Int) (hK : Hid (K % 5 = 2)) :
    Calls Try.prog 11 #[.pointer (some ⟨b, 0, none⟩), .pointer (some ⟨r, 0, none⟩), .agg #[.int .i64 K, .int .i64 X, .int .i64 I]] w (StepPost W b B r da ra na gs G) := by
  obtain ⟨hO, hR, hI, hB, lb, lB⟩ := h
  have HI := Lib.hid hI
  have hfar := Lib.hid (hR.far hO)
  have hmem := Lib.hid hO.mem
  have hws := Lib.hid hR.ws
  have hlow := Lib.hid (fun g (hg : g ∈ [r, da, ra, na]) => Nat.le_trans lB (hR.base g hg))
  have hpb : w.heap.size ≠ b := by have := hO.lt; omega
  have hpg : w.heap.size ∉ [r, da, ra, na] := fun hm => Nat.lt_irrefl _ (hR.lt _ hm)
  have hX := Blk.new w 36 #[.int .i64 K, .int .i64 X, .int .i64 I]
  have hO := hO.alloc (.cells #[.int .i64 K, .int .i64 X, .int .i64 I] 36)
  have hR := hR.below ((Below.refl _ _).alloc (Nat.le_refl _) (.cells #[.int .i64 K, .int .i64 X, .int .i64 I] 36))
  have hB := hB.alloc hB.size (.cells #[.int .i64 K, .int .i64 X, .int .i64 I] 36)
  obtain ⟨G1, v, hv⟩ : ∃ G1 v, quietI G X = (G1, v) := ⟨_, _, rfl⟩
  have HV := Lib.hid hv
  have HN := Lib.hid (quiet_nxt hI hv)
  have hvv : (v == v) = true := beq_self_eq_true v
  clear hv hI
  go_enter Try.func11, Try.ntmps11
  go_wp2_with (first | (go_at_call 24; (with_reducible refine (bring_any K 5 (by omega) (by omega) _).mono ?_); rintro e w0 ⟨rfl, hw0⟩; replace hw0 := hw0.symm; subst hw0; rw [hK.out]))
  have hO := hO.drew
  have hR := hR.drew
  have hX := hX.drew
  have hB := hB.drew
  have x1 : World.cell? _ ⟨w.heap.size, 1, none⟩ = some (.int .i64 X) := hX.cell 1
  have x2 : World.cell? _ ⟨w.heap.size, 2, none⟩ = some (.int .i64 I) := hX.cell 2
  go_region_held3 (fun w' => w'.cell? ⟨w.heap.size, 1, none⟩ = some (.int .i64 X) ∧ w'.cell? ⟨w.heap.size, 2, none⟩ = some (.int .i64 I)) (exact ⟨by assumption, by assumption⟩) (first | (go_at_call 17; (with_reducible refine (quiet_any _ hO HI.out hE X G1 v HV.out).mono ?_); rintro e w3 ⟨rfl, hN, hT⟩; replace hB := hT.below hB lb hB.size; replace hX := hX.one hT hpb; replace hR := hR.one hT hfar.out hmem.out; clear hT hO; have hO := hN; clear hN; have y1 : w3.cell? ⟨w.heap.size, 1, none⟩ = some (.int .i64 X) := hX.cell 1; have y2 : w3.cell? ⟨w.heap.size, 2, none⟩ = some (.int .i64 I) := hX.cell 2) | (go_at_call 31; (with_reducible refine (rquiet_any _ hR HI.out hE X G1 v HV.out).mono ?_); rintro e w4 ⟨rfl, hN, hT⟩; replace hB := hT.below hB hlow.out hB.size; replace hX := hX.rws hT hpg; replace hO := hO.rws hT hfar.out hws.out; clear hT hR; have hR := hN; clear hN; have y1 : w4.cell? ⟨w.heap.size, 1, none⟩ = some (.int .i64 X) := hX.cell 1; have y2 : w4.cell? ⟨w.heap.size, 2, none⟩ = some (.int .i64 I) := hX.cell 2))
  all_goals go_wp2
  all_goals go_ret
  all_goals exact ⟨rfl, G1, HN.out, hO, hR, HN.out.1, hB, lb, lB⟩
set_option maxRecDepth 100000 in
set_option maxHeartbeats 4000000 in
theorem step_call (W w : World) (h : Both W w b B r da ra na gs G) (hE : G.E ≤ 1000000) (K X I : Int) (hK : Hid (K % 5 = 3)) :
    Calls Try.prog 11 #[.pointer (some ⟨b, 0, none⟩), .pointer (some ⟨r, 0, none⟩), .agg #[.int .i64 K, .int .i64 X, .int .i64 I]] w (StepPost W b B r da ra na gs G) := by
  obtain ⟨hO, hR, hI, hB, lb, lB⟩ := h
  have HI := Lib.hid hI
  have hfar := Lib.hid (hR.far hO)
  have hmem := Lib.hid hO.mem
  have hws := Lib.hid hR.ws
  have hlow := Lib.hid (fun g (hg : g ∈ [r, da, ra, na]) => Nat.le_trans lB (hR.base g hg))
  have hpb : w.heap.size ≠ b := by have := hO.lt; omega
  have hpg : w.heap.size ∉ [r, da, ra, na] := fun hm => Nat.lt_irrefl _ (hR.lt _ hm)
  have hX := Blk.new w 36 #[.int .i64 K, .int .i64 X, .int .i64 I]
  have hO := hO.alloc (.cells #[.int .i64 K, .int .i64 X, .int .i64 I] 36)
  have hR := hR.below ((Below.refl _ _).alloc (Nat.le_refl _) (.cells #[.int .i64 K, .int .i64 X, .int .i64 I] 36))
  have hB := hB.alloc hB.size (.cells #[.int .i64 K, .int .i64 X, .int .i64 I] 36)
  obtain ⟨G1, v, hv⟩ : ∃ G1 v, callI G X I = (G1, v) := ⟨_, _, rfl⟩
  have HV := Lib.hid hv
  have HN := Lib.hid (call_nxt hI hv)
  have hvv : (v == v) = true := beq_self_eq_true v
  clear hv hI
  go_enter Try.func11, Try.ntmps11
  go_wp2_with (first | (go_at_call 24; (with_reducible refine (bring_any K 5 (by omega) (by omega) _).mono ?_); rintro e w0 ⟨rfl, hw0⟩; replace hw0 := hw0.symm; subst hw0; rw [hK.out]))
  have hO := hO.drew
  have hR := hR.drew
  have hX := hX.drew
  have hB := hB.drew
  have x1 : World.cell? _ ⟨w.heap.size, 1, none⟩ = some (.int .i64 X) := hX.cell 1
  have x2 : World.cell? _ ⟨w.heap.size, 2, none⟩ = some (.int .i64 I) := hX.cell 2
  go_region_held3 (fun w' => w'.cell? ⟨w.heap.size, 1, none⟩ = some (.int .i64 X) ∧ w'.cell? ⟨w.heap.size, 2, none⟩ = some (.int .i64 I)) (exact ⟨by assumption, by assumption⟩) (first | (go_at_call 18; (with_reducible refine (call_any _ hO HI.out hE X I G1 v HV.out).mono ?_); rintro e w3 ⟨rfl, hN, hT⟩; replace hB := hT.below hB lb hB.size; replace hX := hX.one hT hpb; replace hR := hR.one hT hfar.out hmem.out; clear hT hO; have hO := hN; clear hN; have y1 : w3.cell? ⟨w.heap.size, 1, none⟩ = some (.int .i64 X) := hX.cell 1; have y2 : w3.cell? ⟨w.heap.size, 2, none⟩ = some (.int .i64 I) := hX.cell 2) | (go_at_call 32; (with_reducible refine (rcall_any _ hR HI.out hE X I G1 v HV.out).mono ?_); rintro e w4 ⟨rfl, hN, hT⟩; replace hB := hT.below hB hlow.out hB.size; replace hX := hX.rws hT hpg; replace hO := hO.rws hT hfar.out hws.out; clear hT hR; have hR := hN; clear hN; have y1 : w4.cell? ⟨w.heap.size, 1, none⟩ = some (.int .i64 X) := hX.cell 1; have y2 : w4.cell? ⟨w.heap.size, 2, none⟩ = some (.int .i64 I) := hX.cell 2))
  all_goals go_wp2
  all_goals go_ret
  all_goals exact ⟨rfl, G1, HN.out, hO, hR, HN.out.1, hB, lb, lB⟩
set_option maxRecDepth 100000 in
set_option maxHeartbeats 4000000 in
theorem step_poll (W w : World) (h : Both W w b B r da ra na gs G) (_ : G.E ≤ 1000000) (K X I : Int) (hK : Hid (K % 5 = 4)) :
    Calls Try.prog 11 #[.pointer (some ⟨b, 0, none⟩), .pointer (some ⟨r, 0, none⟩), .agg #[.int .i64 K, .int .i64 X, .int .i64 I]] w (StepPost W b B r da ra na gs G) := by
  obtain ⟨hO, hR, hI, hB, lb, lB⟩ := h
  have HI := Lib.hid hI
  have hfar := Lib.hid (hR.far hO)
  have hmem := Lib.hid hO.mem
  have hws := Lib.hid hR.ws
  have hlow := Lib.hid (fun g (hg : g ∈ [r, da, ra, na]) => Nat.le_trans lB (hR.base g hg))
  have hpb : w.heap.size ≠ b := by have := hO.lt; omega
  have hpg : w.heap.size ∉ [r, da, ra, na] := fun hm => Nat.lt_irrefl _ (hR.lt _ hm)
  have hls := Lib.hid (fun g (hg : g ∈ [r, da, ra, na]) => Nat.lt_succ_of_lt (hR.lt g hg))
  have hX := Blk.new w 36 #[.int .i64 K, .int .i64 X, .int .i64 I]
  have hO := hO.alloc (.cells #[.int .i64 K, .int .i64 X, .int .i64 I] 36)
  have hR := hR.below ((Below.refl _ _).alloc (Nat.le_refl _) (.cells #[.int .i64 K, .int .i64 X, .int .i64 I] 36))
  have hB := hB.alloc hB.size (.cells #[.int .i64 K, .int .i64 X, .int .i64 I] 36)
  obtain ⟨G1, h1⟩ : ∃ G1, pollI G X = G1 := ⟨_, rfl⟩
  obtain ⟨v, h2⟩ : ∃ v, pollE G X = v := ⟨_, rfl⟩
  obtain ⟨l, h3⟩ : ∃ l, pollL G X = l := ⟨_, rfl⟩
  have H1 := Lib.hid h1
  have H2 := Lib.hid h2
  have H3 := Lib.hid h3
  have HN := Lib.hid (poll_nxt hI h1)
  have hvv : (v == v) = true := beq_self_eq_true v
  have hL : Hid (l.length ≤ 9223372036854775807) := Lib.hid (by
    rw [← h3]
    unfold pollL
    cases decide (0 ≤ X ∧ X < (G.C : Int))
    · exact Nat.zero_le _
    · have h4 := (errC_zero.1 (hI.l X.toNat)).1
      rw [cond_true]
      unfold polled idsL
      rw [List.length_map, List.length_take]
      omega)
  clear h1 h2 h3 hI
  go_enter Try.func11, Try.ntmps11
  have x1 : (w.alloc (.cells #[.int .i64 K, .int .i64 X, .int .i64 I] 36)).cell? ⟨w.heap.size, 1, none⟩ = some (.int .i64 X) := hX.cell 1
  go_wp2_with (first | (go_at_call 24; (with_reducible refine (bring_any K 5 (by omega) (by omega) _).mono ?_); rintro e w0 ⟨rfl, hw0⟩; replace hw0 := hw0.symm; subst hw0; rw [hK.out]) | (go_at_call 13; (with_reducible refine (poll_any _ hO HI.out X G1 v l H1.out H2.out H3.out).mono ?_); rintro e w3 ⟨A3, c3, rfl, ho3, hN, hT⟩; replace hB := hT.below hB lb hB.size; replace hX := hX.one hT hpb; replace hR := hR.one hT hfar.out hmem.out; clear hT hO; have hO := hN; clear hN; have y1 : w3.cell? ⟨w.heap.size, 1, none⟩ = some (.int .i64 X) := hX.cell 1) | (go_at_call 33; (with_reducible refine (rpoll_any _ hR HI.out X G1 v l H1.out H2.out H3.out).mono ?_); rintro e w4 ⟨A4, c4, rfl, ho4, hN, hT⟩; have hr3 := own_rws ho3 hT (fun g hg => by have := hls.out g hg; rw [World.size_alloc]; exact this); have hr4 := Row.of_own ho4; replace hB := hT.below hB hlow.out hB.size; replace hO := hO.rws hT hfar.out hws.out; clear hT hR; have hR := hN; clear hN) | (go_at_call 34; (with_reducible refine (eqInts_any l l A3 A4 c3 c4 _ hL.out hL.out hr3 hr4).mono ?_); rintro e w5 ⟨rfl, hb5⟩; rw [decide_eq_true (Eq.refl l)]; replace hB := hB.trans (hb5.mono hB.size); replace hO := hO.below hb5; replace hR := hR.below hb5))
  go_ret
  exact ⟨rfl, G1, HN.out, hO, hR, HN.out.1, hB, lb, lB⟩
end

end Go.Proofs.Ytodaknidbdicdaa
