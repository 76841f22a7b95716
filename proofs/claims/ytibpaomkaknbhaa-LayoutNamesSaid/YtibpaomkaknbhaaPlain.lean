/-
  How objects lie in a slab: plain numbers.
-/
namespace Go.Proofs.Ytibpaomkaknbhaa

structure Lay where
  sz : Int
  al : Int
  st : Int
  off : Int
  ord : Int
  obj : Int
  was : Int
  deriving DecidableEq

def lay0 : Lay := ⟨0, 0, 0, 0, 0, 0, 0⟩
def upI (n m : Int) : Int := (n + m - 1) / m * m
def bytesO : Nat → Int
  | 0 => 256
  | n + 1 => bytesO n * 2
def slabF (l : Lay) (o : Nat) : Lay := { l with ord := o, obj := min (bytesO o / l.st) 16, was := bytesO o - min (bytesO o / l.st) 16 * l.st }

/-- The first text's choice of an order, from order o on; 'first' is the first one that has an object. -/
def scan (l : Lay) : Nat → Nat → Option Lay → Lay × Int
  | 0, _, none => (lay0, 150)
  | 0, _, some x => (x, 0)
  | n + 1, o, first => if (slabF l o).obj = 0 then scan l n (o + 1) first else if (slabF l o).was * 8 ≤ bytesO o then (slabF l o, 0) else scan l n (o + 1) (match first with | some x => some x | none => some (slabF l o))
/-- The second text's. -/
def scan2 (l : Lay) : Nat → Nat → Lay × Int
  | 0, _ => (lay0, 150)
  | n + 1, o => if 0 < (slabF l o).obj then (slabF l o, 0) else scan2 l n (o + 1)
def scan1 (l : Lay) : Nat → Nat → Lay × Int
  | 0, _ => scan2 l 4 0
  | n + 1, o => if 0 < (slabF l o).obj ∧ (slabF l o).was * 8 ≤ (slabF l o).was + (slabF l o).obj * (slabF l o).st then (slabF l o, 0) else scan1 l n (o + 1)

def alB (a : Int) : Bool := a == 1 || (a == 2 || (a == 4 || (a == 8 || (a == 16 || (a == 32 || a == 64)))))
def offOf (a : Int) (g : Bool) : Int := if g = true then upI 8 a else 0
def netOf (s a : Int) (g : Bool) : Int := if g = true then s + (upI 8 a + 8) else s
def bodyOf (s a : Int) (g : Bool) : Lay := ⟨s, a, upI (netOf s a g) (max 8 a), offOf a g, 0, 0, 0⟩
def okL (s a : Int) : Bool := decide (1 ≤ s) && (decide (s ≤ 2048) && alB a)
def ofF (s a : Int) (g : Bool) : Lay × Int := if okL s a = true then scan (bodyOf s a g) 4 0 none else (lay0, 2)

theorem alB_iff (a : Int) : alB a = true ↔ a = 1 ∨ a = 2 ∨ a = 4 ∨ a = 8 ∨ a = 16 ∨ a = 32 ∨ a = 64 := by simp [alB]
theorem okL_iff (s a : Int) : okL s a = true ↔ 1 ≤ s ∧ s ≤ 2048 ∧ (a = 1 ∨ a = 2 ∨ a = 4 ∨ a = 8 ∨ a = 16 ∨ a = 32 ∨ a = 64) := by simp [okL, alB_iff]

theorem bytesO_pos : ∀ o, 0 < bytesO o
  | 0 => by decide
  | n + 1 => by have := bytesO_pos n; unfold bytesO; omega
theorem obj_nn {l : Lay} (h : 1 ≤ l.st) (o : Nat) : 0 ≤ (slabF l o).obj := by
  have h1 := Int.ediv_nonneg (Int.le_of_lt (bytesO_pos o)) (show 0 ≤ l.st by omega)
  show 0 ≤ min (bytesO o / l.st) 16
  omega
theorem was_of (l : Lay) (o : Nat) : (slabF l o).was + (slabF l o).obj * (slabF l o).st = bytesO o := by
  show bytesO o - min (bytesO o / l.st) 16 * l.st + min (bytesO o / l.st) 16 * l.st = bytesO o
  omega

theorem scan_eq {l : Lay} (h : 1 ≤ l.st) : scan1 l 4 0 = scan l 4 0 none := by
  have n0 := obj_nn h 0
  have n1 := obj_nn h 1
  have n2 := obj_nn h 2
  have n3 := obj_nn h 3
  simp only [scan, scan1, scan2, was_of]
  by_cases z0 : (slabF l 0).obj = 0 <;> by_cases z1 : (slabF l 1).obj = 0 <;> by_cases z2 : (slabF l 2).obj = 0 <;> by_cases z3 : (slabF l 3).obj = 0 <;>
    by_cases g0 : (slabF l 0).was * 8 ≤ bytesO 0 <;> by_cases g1 : (slabF l 1).was * 8 ≤ bytesO 1 <;> by_cases g2 : (slabF l 2).was * 8 ≤ bytesO 2 <;> by_cases g3 : (slabF l 3).was * 8 ≤ bytesO 3 <;>
    simp [z0, z1, z2, z3, g0, g1, g2, g3, Int.lt_iff_le_and_ne, n0, n1, n2, n3, Ne.symm]

end Go.Proofs.Ytibpaomkaknbhaa
