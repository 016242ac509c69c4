/-
  Texts of walks and plain lemmas for this seat; no condition.
-/
import Derived.Test.YtplofpdjhelabaaGreatDoorGI
import Derived.Test.YtplofpdjhelabaaGreatDoorGG
namespace Go.Proofs.YtplofpdjhelabaaGreatDoor
open Go.RowKit
section

def easyAt (a : Nat) : List Mv := easyN.map fun n => ⟨(n : Nat), false, (a : Nat)⟩
def restE (e : List Int) (a : Nat) : List Mv := ((List.range e.length).drop a).flatMap easyAt
theorem restE_zero (e : List Int) : restE e 0 = easyMv e := rfl
theorem restE_end (e : List Int) (a : Nat) (h : e.length ≤ a) : restE e a = [] := by unfold restE; rw [List.drop_of_length_le (by simpa using h)]; rfl
theorem restE_next (e : List Int) (a : Nat) (h : a < e.length) : restE e a = easyAt a ++ restE e (a + 1) := by
  unfold restE
  rw [List.drop_eq_getElem_cons (by simpa using h)]
  simp
theorem easyN_len : easyN.length = 11 := rfl
theorem easyAt_len (a : Nat) : (easyAt a).length = 11 := rfl
theorem easyAt_drop (a j : Nat) (h : j < 11) : (easyAt a).drop j = ⟨((easyN[j]'h : Nat) : Int), false, (a : Nat)⟩ :: (easyAt a).drop (j + 1) := by
  rw [List.drop_eq_getElem_cons (by rw [easyAt_len]; exact h)]
  simp [easyAt]
  rfl
def easyVs : Array Value := #[.int .i64 2, .int .i64 3, .int .i64 5, .int .i64 6, .int .i64 7, .int .i64 8, .int .i64 15, .int .i64 16, .int .i64 17, .int .i64 18, .int .i64 19]
theorem easyVs_get (j : Nat) (h : j < 11) : easyVs[j]? = some (.int .i64 ((easyN[j]'h : Nat) : Int)) := by
  have hj : j = 0 ∨ j = 1 ∨ j = 2 ∨ j = 3 ∨ j = 4 ∨ j = 5 ∨ j = 6 ∨ j = 7 ∨ j = 8 ∨ j = 9 ∨ j = 10 := by omega
  rcases hj with rfl | rfl | rfl | rfl | rfl | rfl | rfl | rfl | rfl | rfl | rfl <;> rfl
theorem easyN_bd (j : Nat) (h : j < 11) : easyN[j]'h < 21 := by
  have hj : j = 0 ∨ j = 1 ∨ j = 2 ∨ j = 3 ∨ j = 4 ∨ j = 5 ∨ j = 6 ∨ j = 7 ∨ j = 8 ∨ j = 9 ∨ j = 10 := by omega
  rcases hj with rfl | rfl | rfl | rfl | rfl | rfl | rfl | rfl | rfl | rfl | rfl <;> simp [easyN]

/-- A move and a truth come back. -/
def RetS (P : Mv → Bool → World → Prop) (e : Ending) (w' : World) : Prop := ∃ m ok, e = .returned (.tuple #[aggM m, .bool ok]) ∧ P m ok w'

end

section

def lenOf : Value → Nat
  | .slice _ n _ => n
  | _ => 0
theorem mvs_append (a b : List Mv) : mvs (a ++ b) = mvs a ++ mvs b := by simp [mvs]
/-- Moves made so far, and an expression, in rows of their own. -/
def SimS (B : Nat) (w wr : World) (vm vo : Value) (ms : List Mv) (x : List Int) : Prop :=
  Below B w wr ∧ OwnM B wr.heap.size 37 wr vm ms ∧ ∃ lo hi, SlI lo hi wr vo x ∧ hi ≤ wr.heap.size ∧ ∀ g, vm.ownBlock = some g → g < lo ∨ hi ≤ g
theorem SimS.below {B : Nat} {w wr w' : World} {vm vo : Value} {ms : List Mv} {x : List Int} (h : SimS B w wr vm vo ms x) (hB : B ≤ wr.heap.size) (hb : Below wr.heap.size wr w') : SimS B w w' vm vo ms x := by
  obtain ⟨h1, h2, lo, hi, h3, h4, h5⟩ := h
  exact ⟨h1.trans (hb.mono hB), Own.wide (h2.below hb (Nat.le_refl _)) hb.size, lo, hi, h3.below hb h4, Nat.le_trans h4 hb.size, h5⟩
theorem SimS.rd {B : Nat} {w wr : World} {vm vo : Value} {ms : List Mv} {x : List Int} (h : SimS B w wr vm vo ms x) : RdI wr vo x := by
  obtain ⟨_, _, lo, hi, h3, h4, _⟩ := h
  exact SlI.rd h3 h4
/-- A move behind the others; the expression lies in new memory. -/
theorem SimS.step {B : Nat} {w w2 w3 w4 : World} {vm vo v3 v4 : Value} {ms : List Mv} {x y : List Int} {m : Mv} (h : SimS B w w2 vm vo ms x) (hB : B ≤ w2.heap.size) (hb : Below w2.heap.size w2 w3) (ho : OwnI w2.heap.size w3.heap.size 3 w3 v3 y)
    (h4 : Own 3 B w4.heap.size 37 w4 v4 (ms.length + 1) (mvs ms ++ encMv m)) (hg : (w3.alloc (.cells (encMv m).toArray 37)).grownBy w4 vm.ownBlock) (hl : v4.ownBlock = vm.ownBlock ∨ v4.ownBlock = some (w3.heap.size + 1)) :
    SimS B w w4 v4 v3 (ms ++ [m]) y := by
  obtain ⟨h1, h2, _⟩ := h
  have hs := hg.size
  have hs3 : (w3.alloc (.cells (encMv m).toArray 37)).heap.size = w3.heap.size + 1 := by simp
  have hs2 := hb.size
  have hlt := Own.lt h2
  refine ⟨?_, ?_, w2.heap.size, w3.heap.size, ?_, by omega, fun g hg' => ?_⟩
  · have h5 : Below B w (w3.alloc (.cells (encMv m).toArray 37)) := (h1.trans (hb.mono hB)).alloc (by omega) _
    refine ⟨hg.os.trans h5.os, hg.tape.trans h5.tape, hg.output.trans h5.output, Nat.le_trans h5.size hs, fun i hi => ?_⟩
    rw [hg.block i (by omega) (fun e => by have := hlt i e.symm; omega)]
    exact h5.block i hi
  · unfold OwnM
    rw [List.length_append, mvs_append]
    simpa [mvs] using h4
  · have h6 : SlI w2.heap.size w3.heap.size (w3.alloc (.cells (encMv m).toArray 37)) v3 y := hxa_of ho.sl _
    obtain ⟨a, cap, e1, e2, e3, e4, e5, e6⟩ := h6
    refine ⟨a, cap, e1, e2, e3, e4, e5, fun i hi => ?_⟩
    obtain ⟨b, off, f1, f2, f3, f4, f5⟩ := e6 i hi
    refine ⟨b, off, f1, f2, f3, Nat.lt_of_lt_of_le f4 hs, ?_⟩
    rw [World.cell?_of_block (w := w3.alloc (.cells (encMv m).toArray 37)) (a := ⟨b, off + i, none⟩) (hg.block b f4 (fun e => by have := hlt b e.symm; omega))]
    exact f5
  · rcases hl with e | e
    · rw [e] at hg'
      have := hlt g hg'
      exact .inl (by omega)
    · rw [e] at hg'
      injection hg' with hg'
      exact .inr (by omega)
/-- The new expression is still owned. -/
theorem hoy_of {B : Nat} {w w2 w3 w4 : World} {vm vo v3 : Value} {ms : List Mv} {x y : List Int} {o : Obj} (h : SimS B w w2 vm vo ms x) (ho : OwnI w2.heap.size w3.heap.size 3 w3 v3 y) (hg : (w3.alloc o).grownBy w4 vm.ownBlock) (hB : B ≤ w2.heap.size) :
    OwnI B w4.heap.size 3 w4 v3 y := by
  have hlt := Own.lt h.2.1
  have hs := hg.size
  have hs3 : (w3.alloc o).heap.size = w3.heap.size + 1 := by simp
  have h1 := (Own.alloc ho o).1
  have h2 := World.ownsRow.kept h1 hg (by
    cases hb : v3.ownBlock with
    | none => exact .inl rfl
    | some g =>
      refine .inr fun e => ?_
      have h3 := (Own.lt ho g hb).1
      have h4 := hlt g e.symm
      omega)
  exact Own.wide2 ⟨h2, fun g hg' => by have := (Own.lt ho g hg').2; omega⟩ hB (Nat.le_refl _)
theorem encMv_one (m : Mv) : ∀ u ∈ encMv m, u.oneCell' = true := by
  intro u hu
  simp [encMv] at hu
  rcases hu with rfl | rfl | rfl <;> rfl

/-- Two values come back. -/
def RetVV (P : Value → Value → World → Prop) (e : Ending) (w' : World) : Prop := ∃ a b, e = .returned (.tuple #[a, b]) ∧ P a b w'

end

section

theorem Own.form {sz lo hi e n : Nat} {w : World} {v : Value} {xs : List Value} (h : Own sz lo hi e w v n xs) : ∃ a k c, v = .slice a k c := by
  obtain ⟨a, c, h, _⟩ := Own.open h
  exact ⟨a, n, c, h⟩
def foundOf : Value → Nat
  | .bool true => 0
  | _ => 1
def simpBy (e : List Int) : List Mv := if katV e then (simpM e).1 else []

end

section

def simpE (e : List Int) : List Int := if katV e then (simpM e).2 else []
theorem simpBy_len (e : List Int) : (simpBy e).length ≤ 40 := by
  unfold simpBy
  split
  · rename_i h
    have := simpM_bd _ e (Nat.le_refl _)
    have := (kat_len h).2
    omega
  · simp
theorem simpE_len (e : List Int) : (simpE e).length ≤ 40 := by
  unfold simpE
  split
  · rename_i h
    have := simpM_bd _ e (Nat.le_refl _)
    have := (kat_len h).2
    omega
  · simp

end
end Go.Proofs.YtplofpdjhelabaaGreatDoor
