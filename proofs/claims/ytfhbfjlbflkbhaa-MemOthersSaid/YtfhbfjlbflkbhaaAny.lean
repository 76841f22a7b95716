/-
  The methods at any place, of both memories alike: plain functions of the words give what they answer.
-/
import Derived.Test.YtfhbfjlbflkbhaaNew
import Derived.WalkKit
import Derived.Deep.DeepMust
import Derived.WalkSpells
import Derived.WalkLawsBesides
import Derived.Handy
import Derived.Lib.Hide
import Derived.Deep.QuietTactic
import Derived.BigQuiet
namespace Go.Proofs.Ytfhbfjlbflkbhaa
open Go.RowKit

def okA (n m : Nat) (i : Int) : Bool := decide (0 ≤ i ∧ i + (m : Int) ≤ (n : Int))
def erA (n m : Nat) (i : Int) : Int := bif okA n m i then 0 else 9
def cnA (n m : Nat) (i : Int) : Nat := bif okA n m i then 1 else 0
def atA (ws : List Nat) (i : Int) : Nat := ws.getD i.toNat 0
def ldA (ws : List Nat) (i : Int) : Nat := bif okA ws.length 1 i then atA ws i else 0
def stA (ws : List Nat) (i : Int) (v : Nat) : List Nat := bif okA ws.length 1 i then ws.set i.toNat v else ws
def adA (ws : List Nat) (i : Int) (v : Nat) : List Nat := stA ws i ((atA ws i + v) % 18446744073709551616)
def csA (ws : List Nat) (i : Int) (o : Nat) : Bool := okA ws.length 1 i && decide (atA ws i = o)
def cwA (ws : List Nat) (i : Int) (o v : Nat) : List Nat := bif csA ws i o then ws.set i.toNat v else ws
def dsA (ws : List Nat) (i : Int) (o s : Nat) : Bool := okA ws.length 2 i && decide (atA ws i = o ∧ atA ws (i + 1) = s)
def dwA (ws : List Nat) (i : Int) (o s v x : Nat) : List Nat := bif dsA ws i o s then (ws.set i.toNat v).set (i.toNat + 1) x else ws

theorem okA_iff {n m : Nat} {i : Int} : okA n m i = true ↔ 0 ≤ i ∧ i + (m : Int) ≤ (n : Int) := by simp [okA]
theorem okA_no {n m : Nat} {i : Int} (h : okA n m i = false) : i < 0 ∨ (n : Int) < i + (m : Int) := by
  have : ¬ (0 ≤ i ∧ i + (m : Int) ≤ (n : Int)) := by rw [← okA_iff, h]; simp
  omega
theorem atA_hid {ws : List Nat} {i : Nat} (h : i < ws.length) : ws[i]? = some (atA ws (i : Int)) := by
  simp [atA, List.getD, h]
theorem stA_len (ws : List Nat) (i : Int) (v : Nat) : (stA ws i v).length = ws.length := by
  unfold stA; cases okA ws.length 1 i <;> simp
theorem adA_len (ws : List Nat) (i : Int) (v : Nat) : (adA ws i v).length = ws.length := stA_len _ _ _
theorem cwA_len (ws : List Nat) (i : Int) (o v : Nat) : (cwA ws i o v).length = ws.length := by
  unfold cwA; cases csA ws i o <;> simp
theorem dwA_len (ws : List Nat) (i : Int) (o s v x : Nat) : (dwA ws i o s v x).length = ws.length := by
  unfold dwA; cases dsA ws i o s <;> simp
theorem cnA_le (n m : Nat) (i : Int) : cnA n m i ≤ 1 := by unfold cnA; cases okA n m i <;> simp
theorem u64_eq {a b : Nat} : ((a : Int) = (b : Int)) ↔ a = b := by omega

theorem load_a (w : World) (b g : Nat) (ws : List Nat) (cnt n : Nat) (hM : MemAt 52 w b g ws cnt) (hn : Hid (ws.length = n)) (hn' : n ≤ 4096) (hc : cnt ≤ 1000000) (i : Int) :
    Calls Try.prog 12 #[.pointer (some ⟨b, 0, none⟩), .int .i64 i] w fun e w' =>
      e = .returned (.tuple #[.int .u64 (ldA ws i : Int), .int .i64 (erA n 1 i)]) ∧ MemAt 52 w' b g ws (cnt + cnA n 1 i) ∧ Two b g w w' := by
  have hl := hn.out
  cases ho : okA n 1 i
  · have h := okA_no ho
    have := load_err w b g ws cnt n hM hn hn' i (by omega)
    simp only [ldA, erA, cnA, hl, ho, cond_false, Nat.add_zero]; exact this
  · obtain ⟨h0, h1⟩ := okA_iff.1 ho
    obtain ⟨j, rfl⟩ := Int.eq_ofNat_of_zero_le h0
    have hj : j < n := by omega
    have := load_ok w b g ws cnt n hM hn hn' hc j (atA ws (j : Int)) hj (Lib.hid (atA_hid (by omega)))
    simp only [ldA, erA, cnA, hl, ho, cond_true]; exact this

theorem store_a (w : World) (b g : Nat) (ws : List Nat) (cnt n : Nat) (hM : MemAt 52 w b g ws cnt) (hn : Hid (ws.length = n)) (hn' : n ≤ 4096) (hc : cnt ≤ 1000000) (i : Int) (v : Nat) :
    Calls Try.prog 13 #[.pointer (some ⟨b, 0, none⟩), .int .i64 i, .int .u64 (v : Int)] w fun e w' =>
      e = .returned (.int .i64 (erA n 1 i)) ∧ MemAt 52 w' b g (stA ws i v) (cnt + cnA n 1 i) ∧ Two b g w w' := by
  have hl := hn.out
  cases ho : okA n 1 i
  · have h := okA_no ho
    have := store_err w b g ws cnt n hM hn hn' i (by omega) v
    simp only [stA, erA, cnA, hl, ho, cond_false, Nat.add_zero]; exact this
  · obtain ⟨h0, h1⟩ := okA_iff.1 ho
    obtain ⟨j, rfl⟩ := Int.eq_ofNat_of_zero_le h0
    have hj : j < n := by omega
    have := store_ok w b g ws cnt n hM hn hn' hc j (atA ws (j : Int)) hj (Lib.hid (atA_hid (by omega))) v
    simp only [stA, erA, cnA, hl, ho, cond_true, Int.toNat_natCast]; exact this

theorem add_a (w : World) (b g : Nat) (ws : List Nat) (cnt n : Nat) (hM : MemAt 52 w b g ws cnt) (hn : Hid (ws.length = n)) (hn' : n ≤ 4096) (hc : cnt ≤ 1000000) (i : Int) (v : Nat) :
    Calls Try.prog 11 #[.pointer (some ⟨b, 0, none⟩), .int .i64 i, .int .u64 (v : Int)] w fun e w' =>
      e = .returned (.tuple #[.int .u64 (ldA ws i : Int), .int .i64 (erA n 1 i)]) ∧ MemAt 52 w' b g (adA ws i v) (cnt + cnA n 1 i) ∧ Two b g w w' := by
  have hl := hn.out
  cases ho : okA n 1 i
  · have h := okA_no ho
    have := add_err w b g ws cnt n hM hn hn' i (by omega) v
    simp only [ldA, adA, stA, erA, cnA, hl, ho, cond_false, Nat.add_zero]; exact this
  · obtain ⟨h0, h1⟩ := okA_iff.1 ho
    obtain ⟨j, rfl⟩ := Int.eq_ofNat_of_zero_le h0
    have hj : j < n := by omega
    have := add_ok w b g ws cnt n hM hn hn' hc j (atA ws (j : Int)) hj (Lib.hid (atA_hid (by omega))) v
    simp only [ldA, adA, stA, erA, cnA, hl, ho, cond_true, Int.toNat_natCast]; exact this

theorem cas_a (w : World) (b g : Nat) (ws : List Nat) (cnt n : Nat) (hM : MemAt 52 w b g ws cnt) (hn : Hid (ws.length = n)) (hn' : n ≤ 4096) (hc : cnt ≤ 1000000) (i : Int) (o v : Nat) :
    Calls Try.prog 15 #[.pointer (some ⟨b, 0, none⟩), .int .i64 i, .int .u64 (o : Int), .int .u64 (v : Int)] w fun e w' =>
      e = .returned (.tuple #[.bool (csA ws i o), .int .i64 (erA n 1 i)]) ∧ MemAt 52 w' b g (cwA ws i o v) (cnt + cnA n 1 i) ∧ Two b g w w' := by
  have hl := hn.out
  cases ho : okA n 1 i
  · have h := okA_no ho
    have := cas_err w b g ws cnt n hM hn hn' i (by omega) o v
    simp only [cwA, csA, erA, cnA, hl, ho, cond_false, Bool.false_and, Nat.add_zero]; exact this
  · obtain ⟨h0, h1⟩ := okA_iff.1 ho
    obtain ⟨j, rfl⟩ := Int.eq_ofNat_of_zero_le h0
    have hj : j < n := by omega
    by_cases he : atA ws (j : Int) = o
    · have := cas_yes w b g ws cnt n hM hn hn' hc j (atA ws (j : Int)) hj (Lib.hid (atA_hid (by omega))) o v (by omega)
      simp only [cwA, csA, erA, cnA, hl, ho, he, cond_true, Bool.true_and, decide_true, Int.toNat_natCast]; exact this
    · have := cas_no w b g ws cnt n hM hn hn' hc j (atA ws (j : Int)) hj (Lib.hid (atA_hid (by omega))) o v (by omega)
      simp only [cwA, csA, erA, cnA, hl, ho, he, cond_true, cond_false, Bool.true_and, decide_false]; exact this

theorem cas2_a (w : World) (b g : Nat) (ws : List Nat) (cnt n : Nat) (hM : MemAt 52 w b g ws cnt) (hn : Hid (ws.length = n)) (hn' : n ≤ 4096) (hc : cnt ≤ 1000000) (i : Int) (o s v x : Nat) :
    Calls Try.prog 14 #[.pointer (some ⟨b, 0, none⟩), .int .i64 i, .int .u64 (o : Int), .int .u64 (s : Int), .int .u64 (v : Int), .int .u64 (x : Int)] w fun e w' =>
      e = .returned (.tuple #[.bool (dsA ws i o s), .int .i64 (erA n 2 i)]) ∧ MemAt 52 w' b g (dwA ws i o s v x) (cnt + cnA n 2 i) ∧ Two b g w w' := by
  have hl := hn.out
  cases ho : okA n 2 i
  · have h := okA_no ho
    have := cas2_err w b g ws cnt n hM hn hn' i (by omega) o s v x
    simp only [dwA, dsA, erA, cnA, hl, ho, cond_false, Bool.false_and, Nat.add_zero]; exact this
  · obtain ⟨h0, h1⟩ := okA_iff.1 ho
    obtain ⟨j, rfl⟩ := Int.eq_ofNat_of_zero_le h0
    have hj : j + 1 < n := by omega
    by_cases he : atA ws (j : Int) = o ∧ atA ws ((j : Int) + 1) = s
    · have := cas2_yes w b g ws cnt n hM hn hn' hc j (atA ws (j : Int)) (atA ws ((j : Int) + 1)) (by omega) (Lib.hid (atA_hid (by omega))) (Lib.hid (atA_hid (i := j + 1) (by omega))) o s v x (by omega)
      simp only [dwA, dsA, erA, cnA, hl, ho, he, and_self, cond_true, Bool.true_and, decide_true, Int.toNat_natCast]; exact this
    · have := cas2_no w b g ws cnt n hM hn hn' hc j (atA ws (j : Int)) (atA ws ((j : Int) + 1)) (by omega) (Lib.hid (atA_hid (by omega))) (Lib.hid (atA_hid (i := j + 1) (by omega))) o s v x (by omega)
      simp only [dwA, dsA, erA, cnA, hl, ho, he, cond_true, cond_false, Bool.true_and, decide_false]; exact this

theorem rload_a (w : World) (b g : Nat) (ws : List Nat) (cnt n : Nat) (hM : MemAt 58 w b g ws cnt) (hn : Hid (ws.length = n)) (hn' : n ≤ 4096) (hc : cnt ≤ 1000000) (i : Int) :
    Calls Try.prog 30 #[.pointer (some ⟨b, 0, none⟩), .int .i64 i] w fun e w' =>
      e = .returned (.tuple #[.int .u64 (ldA ws i : Int), .int .i64 (erA n 1 i)]) ∧ MemAt 58 w' b g ws (cnt + cnA n 1 i) ∧ Two b g w w' := by
  have hl := hn.out
  cases ho : okA n 1 i
  · have h := okA_no ho
    have := rload_err w b g ws cnt n hM hn hn' i (by omega)
    simp only [ldA, erA, cnA, hl, ho, cond_false, Nat.add_zero]; exact this
  · obtain ⟨h0, h1⟩ := okA_iff.1 ho
    obtain ⟨j, rfl⟩ := Int.eq_ofNat_of_zero_le h0
    have hj : j < n := by omega
    have := rload w b g ws cnt n hM hn hn' hc j (atA ws (j : Int)) hj (Lib.hid (atA_hid (by omega)))
    simp only [ldA, erA, cnA, hl, ho, cond_true]; exact this

theorem rstore_a (w : World) (b g : Nat) (ws : List Nat) (cnt n : Nat) (hM : MemAt 58 w b g ws cnt) (hn : Hid (ws.length = n)) (hn' : n ≤ 4096) (hc : cnt ≤ 1000000) (i : Int) (v : Nat) :
    Calls Try.prog 31 #[.pointer (some ⟨b, 0, none⟩), .int .i64 i, .int .u64 (v : Int)] w fun e w' =>
      e = .returned (.int .i64 (erA n 1 i)) ∧ MemAt 58 w' b g (stA ws i v) (cnt + cnA n 1 i) ∧ Two b g w w' := by
  have hl := hn.out
  cases ho : okA n 1 i
  · have h := okA_no ho
    have := rstore_err w b g ws cnt n hM hn hn' i (by omega) v
    simp only [stA, erA, cnA, hl, ho, cond_false, Nat.add_zero]; exact this
  · obtain ⟨h0, h1⟩ := okA_iff.1 ho
    obtain ⟨j, rfl⟩ := Int.eq_ofNat_of_zero_le h0
    have hj : j < n := by omega
    have := rstore w b g ws cnt n hM hn hn' hc j (atA ws (j : Int)) hj (Lib.hid (atA_hid (by omega))) v
    simp only [stA, erA, cnA, hl, ho, cond_true, Int.toNat_natCast]; exact this

theorem radd_a (w : World) (b g : Nat) (ws : List Nat) (cnt n : Nat) (hM : MemAt 58 w b g ws cnt) (hn : Hid (ws.length = n)) (hn' : n ≤ 4096) (hc : cnt ≤ 1000000) (i : Int) (v : Nat) :
    Calls Try.prog 34 #[.pointer (some ⟨b, 0, none⟩), .int .i64 i, .int .u64 (v : Int)] w fun e w' =>
      e = .returned (.tuple #[.int .u64 (ldA ws i : Int), .int .i64 (erA n 1 i)]) ∧ MemAt 58 w' b g (adA ws i v) (cnt + cnA n 1 i) ∧ Two b g w w' := by
  have hl := hn.out
  cases ho : okA n 1 i
  · have h := okA_no ho
    have := radd_err w b g ws cnt n hM hn hn' i (by omega) v
    simp only [ldA, adA, stA, erA, cnA, hl, ho, cond_false, Nat.add_zero]; exact this
  · obtain ⟨h0, h1⟩ := okA_iff.1 ho
    obtain ⟨j, rfl⟩ := Int.eq_ofNat_of_zero_le h0
    have hj : j < n := by omega
    have := radd w b g ws cnt n hM hn hn' hc j (atA ws (j : Int)) hj (Lib.hid (atA_hid (by omega))) v
    simp only [ldA, adA, stA, erA, cnA, hl, ho, cond_true, Int.toNat_natCast]; exact this

theorem rcas_a (w : World) (b g : Nat) (ws : List Nat) (cnt n : Nat) (hM : MemAt 58 w b g ws cnt) (hn : Hid (ws.length = n)) (hn' : n ≤ 4096) (hc : cnt ≤ 1000000) (i : Int) (o v : Nat) :
    Calls Try.prog 32 #[.pointer (some ⟨b, 0, none⟩), .int .i64 i, .int .u64 (o : Int), .int .u64 (v : Int)] w fun e w' =>
      e = .returned (.tuple #[.bool (csA ws i o), .int .i64 (erA n 1 i)]) ∧ MemAt 58 w' b g (cwA ws i o v) (cnt + cnA n 1 i) ∧ Two b g w w' := by
  have hl := hn.out
  cases ho : okA n 1 i
  · have h := okA_no ho
    have := rcas_err w b g ws cnt n hM hn hn' i (by omega) o v
    simp only [cwA, csA, erA, cnA, hl, ho, cond_false, Bool.false_and, Nat.add_zero]; exact this
  · obtain ⟨h0, h1⟩ := okA_iff.1 ho
    obtain ⟨j, rfl⟩ := Int.eq_ofNat_of_zero_le h0
    have hj : j < n := by omega
    by_cases he : atA ws (j : Int) = o
    · have := rcas_yes w b g ws cnt n hM hn hn' hc j (atA ws (j : Int)) hj (Lib.hid (atA_hid (by omega))) o v (by omega)
      simp only [cwA, csA, erA, cnA, hl, ho, he, cond_true, Bool.true_and, decide_true, Int.toNat_natCast]; exact this
    · have := rcas_no w b g ws cnt n hM hn hn' hc j (atA ws (j : Int)) hj (Lib.hid (atA_hid (by omega))) o v (by omega)
      simp only [cwA, csA, erA, cnA, hl, ho, he, cond_true, cond_false, Bool.true_and, decide_false]; exact this

theorem rcas2_a (w : World) (b g : Nat) (ws : List Nat) (cnt n : Nat) (hM : MemAt 58 w b g ws cnt) (hn : Hid (ws.length = n)) (hn' : n ≤ 4096) (hc : cnt ≤ 1000000) (i : Int) (o s v x : Nat) :
    Calls Try.prog 33 #[.pointer (some ⟨b, 0, none⟩), .int .i64 i, .int .u64 (o : Int), .int .u64 (s : Int), .int .u64 (v : Int), .int .u64 (x : Int)] w fun e w' =>
      e = .returned (.tuple #[.bool (dsA ws i o s), .int .i64 (erA n 2 i)]) ∧ MemAt 58 w' b g (dwA ws i o s v x) (cnt + cnA n 2 i) ∧ Two b g w w' := by
  have hl := hn.out
  cases ho : okA n 2 i
  · have h := okA_no ho
    have := rcas2_err w b g ws cnt n hM hn hn' i (by omega) o s v x
    simp only [dwA, dsA, erA, cnA, hl, ho, cond_false, Bool.false_and, Nat.add_zero]; exact this
  · obtain ⟨h0, h1⟩ := okA_iff.1 ho
    obtain ⟨j, rfl⟩ := Int.eq_ofNat_of_zero_le h0
    have hj : j + 1 < n := by omega
    by_cases he : atA ws (j : Int) = o ∧ atA ws ((j : Int) + 1) = s
    · have := rcas2_yes w b g ws cnt n hM hn hn' hc j (atA ws (j : Int)) (atA ws ((j : Int) + 1)) (by omega) (Lib.hid (atA_hid (by omega))) (Lib.hid (atA_hid (i := j + 1) (by omega))) o s v x (by omega) (by omega)
      simp only [dwA, dsA, erA, cnA, hl, ho, he, and_self, cond_true, Bool.true_and, decide_true, Int.toNat_natCast]; exact this
    · by_cases h1 : atA ws (j : Int) = o
      · have := rcas2_no2 w b g ws cnt n hM hn hn' hc j (atA ws (j : Int)) (atA ws ((j : Int) + 1)) (by omega) (Lib.hid (atA_hid (by omega))) (Lib.hid (atA_hid (i := j + 1) (by omega))) o s v x (by omega) (by omega)
        simp only [dwA, dsA, erA, cnA, hl, ho, he, cond_true, cond_false, Bool.true_and, decide_false]; exact this
      · have := rcas2_no1 w b g ws cnt n hM hn hn' hc j (atA ws (j : Int)) (atA ws ((j : Int) + 1)) (by omega) (Lib.hid (atA_hid (by omega))) (Lib.hid (atA_hid (i := j + 1) (by omega))) o s v x (by omega)
        simp only [dwA, dsA, erA, cnA, hl, ho, he, cond_true, cond_false, Bool.true_and, decide_false]; exact this

end Go.Proofs.Ytfhbfjlbflkbhaa
