/-
  Texts of walks and plain lemmas for this seat; no condition.
-/
import Derived.Test.YtjpndimhegfbnaaGreatDoorOnce
namespace Go.Proofs.YtjpndimhegfbnaaGreatDoor
open Go.RowKit

theorem Blk.set01 {g : Nat} {e : TypeId} {w : World} {x0 x1 x2 x3 x4 : Value} (h : Blk g (.cells #[x0, x1, x2, x3, x4] e (0, 0)) w) (c d : Value) :
    Blk g (.cells #[c, d, x2, x3, x4] e (0, 0)) ((w.drew.setCell ⟨g, 0, none⟩ c).setCell ⟨g, 1, none⟩ d) := by
  have h' : w.drew.heap[g]? = _ := h
  show ((w.drew.setCell ⟨g, 0, none⟩ c).setCell ⟨g, 1, none⟩ d).heap[g]? = _
  simp [World.setCell, Array.getElem?_modify, h']
theorem Blk.set1 {g : Nat} {e : TypeId} {w : World} {x0 x1 x2 x3 x4 : Value} (h : Blk g (.cells #[x0, x1, x2, x3, x4] e (0, 0)) w) (d : Value) :
    Blk g (.cells #[x0, d, x2, x3, x4] e (0, 0)) (w.setCell ⟨g, 1, none⟩ d) := by
  have h' : w.heap[g]? = _ := h
  show (w.setCell ⟨g, 1, none⟩ d).heap[g]? = _
  simp [World.setCell, Array.getElem?_modify, h']
theorem Outside.set01 (g : Nat) (w : World) (c d : Value) : Outside g (g + 1) w ((w.drew.setCell ⟨g, 0, none⟩ c).setCell ⟨g, 1, none⟩ d) :=
  (((Outside.of_below (Below.refl w.heap.size w).drew (Nat.le_refl _))).setCell (p := ⟨g, 0, none⟩) (Nat.le_refl _) (Nat.lt_succ_self _) _).setCell (p := ⟨g, 1, none⟩) (Nat.le_refl _) (Nat.lt_succ_self _) _

/-- The same, the Once done. -/
abbrev Done (g : Nat) (d2 : Value) (w w' : World) : Prop := Built g (.int .u32 1) (.int .i32 0) d2 w w'

set_option maxRecDepth 100000 in
set_option maxHeartbeats 1600000 in
theorem slow_any (g o cap : Nat) (d2 : Value) (w : World) (hne : o ≠ g) (hK : Blk g (.cells #[.int .u32 0, .int .i32 0, d2, .nilIface, .slice (some ⟨o, 0, none⟩) 6 cap] 190) w) (hS : ∀ j, j < 6 → w.cell? ⟨o, j, none⟩ = six[j]?) :
    Calls Tryz.prog 141 #[.pointer (some ⟨g, 0, none⟩), .func (.func 132) #[.pointer (some ⟨g, 0, none⟩)] #[]] w fun e w' => e = .returned (.tuple #[]) ∧ Done g d2 w w' := by
  have c1 := hK.cell 1
  have f1 := hK.free 1
  have HK := Lib.hid hK
  have HS := Lib.hid hS
  obtain ⟨w1, hw1⟩ : ∃ w1, w1 = w.setCell ⟨g, 1, none⟩ (.int .i32 1) := ⟨_, rfl⟩
  have hK1 : Blk g (.cells #[.int .u32 0, .int .i32 1, d2, .nilIface, .slice (some ⟨o, 0, none⟩) 6 cap] 190) w1 := by rw [hw1]; exact hK.set1 _
  have hS1 : ∀ j, j < 6 → w1.cell? ⟨o, j, none⟩ = six[j]? := fun j hj => by
    rw [hw1]
    exact (World.cell?_setCell_other _ _ _ _ (by intro h; injection h with h _; exact hne h.symm)).trans (hS j hj)
  have ho1 : Outside g (g + 1) w w1 := by rw [hw1]; exact (Outside.refl _ _ _).setCell (p := ⟨g, 1, none⟩) (Nat.le_refl _) (Nat.lt_succ_self _) _
  have c0 := hK1.cell 0
  have hl := run_call_load (P := Tryz.prog) Tryz.func147 (by kernel_rfl) (by kernel_rfl) (by kernel_rfl) .u32 (by kernel_rfl) (w := w1) (a := ⟨g, 0, none⟩) (x := 0) c0
  have hnot : ∀ (x : Bool) (w : World), (Op.unary .not (.bool x)).run Tryz.prog w = .ok (.bool (!x)) w := fun _ _ => rfl
  have HK1 := Lib.hid hK1
  have HS1 := Lib.hid hS1
  have HO1 := Lib.hid ho1
  have HW1 := Lib.hid hw1
  have hsz1 : w1.heap.size = w.heap.size := by rw [hw1]; simp [World.setCell]
  clear hK hS hK1 hS1 ho1 hw1 c0
  go_enter_defers Tryz.func141, Tryz.ntmps141
  go_wp2_with fail
  refine (lock_free ⟨g, 1, none⟩ _ c1 f1).mono ?_
  rintro e w' ⟨rfl, rfl⟩
  simp only [← HW1.out]
  clear c1 f1
  go_wp2_with (first | (go_at_call 140; go_in) | (go_at_call 132; refine (buildOnce_any g o cap _ _ _ _ HK1.out HS1.out).mono ?_; rintro e w2 ⟨rfl, t, cs, h1, h2, h3, h4, h5⟩))
  have d0 := h2.cell 0
  have z0 := h2.free 0
  have d1 : (w2.drew.setCell ⟨g, 0, none⟩ (.int .u32 1)).cell? ⟨g, 1, none⟩ = some (.int .i32 1) := (World.cell?_setCell_other _ _ _ _ (by simp)).trans (h2.cell 1)
  have z1 : (w2.drew.setCell ⟨g, 0, none⟩ (.int .u32 1)).frozen? ⟨g, 1, none⟩ = false := by
    rw [World.frozen?_setCell]
    exact h2.free 1
  refine leaves_cons (f := 150) (args := #[.pointer (some ⟨g, 0, none⟩), .bool true]) (by simp) (by simp [go_sem]) ?_
  refine (store_deferred ⟨g, 0, none⟩ (.int .u32 0) .returning _ d0 z0).mono ?_
  rintro e u' w'' ⟨rfl, rfl, rfl⟩
  refine leaves_cons (f := 149) (args := #[.pointer (some ⟨g, 1, none⟩)]) (by simp [settle]) (by simp [go_sem]) ?_
  refine (unlock_deferred ⟨g, 1, none⟩ _ _ d1 z1).mono ?_
  rintro e u' w'' ⟨rfl, rfl, rfl⟩
  have HZ := Lib.hid (h2.set01 (.int .u32 1) (.int .i32 0))
  have HOZ := Lib.hid (Outside.set01 g w2 (.int .u32 1) (.int .i32 0))
  have hgt : g < t := by have := HK.out.lt; omega
  have HF := Lib.hid (show Done g d2 w ((w2.drew.setCell ⟨g, 0, none⟩ (.int .u32 1)).setCell ⟨g, 1, none⟩ (.int .i32 0)) from ⟨t, cs, by omega, HZ.out, h3.outside HOZ.out (.inr (by omega)), h4, (HO1.out.trans h5).trans HOZ.out⟩)
  clear h2 h3 h4 h5 HZ HOZ d0 d1 z0 z1
  simp [Leaves, settle, results, Tryz.results141]
  exact HF.out

set_option maxRecDepth 100000 in
set_option maxHeartbeats 1600000 in
theorem do_first (g o cap : Nat) (d2 : Value) (w : World) (hne : o ≠ g) (hK : Blk g (.cells #[.int .u32 0, .int .i32 0, d2, .nilIface, .slice (some ⟨o, 0, none⟩) 6 cap] 190) w) (hS : ∀ j, j < 6 → w.cell? ⟨o, j, none⟩ = six[j]?) :
    Calls Tryz.prog 131 #[.pointer (some ⟨g, 0, none⟩), .func (.func 132) #[.pointer (some ⟨g, 0, none⟩)] #[]] w fun e w' => e = .returned (.tuple #[]) ∧ Done g d2 w w' := by
  have c0 := hK.cell 0
  have hl := run_call_load (P := Tryz.prog) Tryz.func147 (by kernel_rfl) (by kernel_rfl) (by kernel_rfl) .u32 (by kernel_rfl) (w := w) (a := ⟨g, 0, none⟩) (x := 0) c0
  have hnot : ∀ (x : Bool) (w : World), (Op.unary .not (.bool x)).run Tryz.prog w = .ok (.bool (!x)) w := fun _ _ => rfl
  have HK := Lib.hid hK
  have HS := Lib.hid hS
  clear hK hS c0
  go_enter Tryz.func131, Tryz.ntmps131
  go_wp2_with (first | (go_at_call 140; go_in) | (go_at_call 141; refine (slow_any g o cap d2 w hne HK.out HS.out).mono ?_; rintro e w' ⟨rfl, hd⟩))
  go_end0
  exact ⟨rfl, hd⟩
end Go.Proofs.YtjpndimhegfbnaaGreatDoor
