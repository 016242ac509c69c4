/-
  Texts of walks and plain lemmas for this seat; no condition.
-/
import Derived.Test.YtjpndimhegfbnaaGreatDoorDesk
import Derived.Test.YtjpndimhegfbnaaGreatDoorClone
import Derived.Test.YtjpndimhegfbnaaGreatDoorSlEq
namespace Go.Proofs.YtjpndimhegfbnaaGreatDoor
open Go.RowKit

/-- A list and a truth come back. -/
def RetIB (P : Value → Bool → World → Prop) (e : Ending) (w' : World) : Prop := ∃ v b, e = .returned (.tuple #[v, .bool b]) ∧ P v b w'

set_option maxHeartbeats 800000 in
/-- No moves: the expression itself. -/
theorem impl_ProofRun_nil (lo hi : Nat) (v : Value) (xs : List Int) (a : Option Addr) (cap : Nat) (w : World) (hx : SlI lo hi w v xs) (hm : xs.length ≤ 1048576) (hv : katV xs = true) :
    Calls Tryz.prog 44 #[v, .slice a 0 cap] w (RetIB fun v' b w' => b = true ∧ Below w.heap.size w w' ∧ OwnI w.heap.size w'.heap.size 3 w' v' xs) := by
  have HX := Lib.hid hx
  clear hx
  go_enter Tryz.func44, Tryz.ntmps44
  go_wp2_with fail
  refine (impl_KatValid _ _ _ xs _ HX.out hm).mono ?_
  rintro e w1 ⟨rfl, rfl⟩
  go_wp2_with fail
  refine (cloneI_any _ _ _ xs _ HX.out hm).mono ?_
  rintro e w2 ⟨v2, rfl, hb, ho⟩
  have HB := Lib.hid hb
  have HO := Lib.hid ho
  clear hb ho
  go_wp2
  go_loopw [6, 23] (fun u i wr => u = v2 ∧ i = .int .i64 0 ∧ wr = w2) (fun _ _ _ => 0)
  case atStart => exact ⟨rfl, rfl, rfl⟩
  case round =>
    obtain ⟨rfl, rfl, rfl⟩ := hrel
    go_wp2
    go_ret2
    exact ⟨_, true, rfl, rfl, HB.out, HO.out⟩

set_option maxHeartbeats 1600000 in
/-- DeskValid of a desk without moves. -/
theorem impl_DeskValid_nil (lo hi : Nat) (a b c d : Value) (D : Dsk) (w : World) (hx : DeskAt lo hi w a b c d D) (hh : hi ≤ w.heap.size) (hm : D.size ≤ 1048576) (hz : D.made = []) (hv : katV D.first = true) (hg : katV D.goal = true) :
    Calls Tryz.prog 27 #[aggD a b c d] w fun e w' => e = .returned (.bool (eqL D.first D.now)) ∧ Below w.heap.size w w' := by
  obtain ⟨F, G, M, N⟩ := D
  obtain rfl : M = [] := hz
  obtain ⟨am, cm, rfl⟩ : ∃ am cm, c = .slice am 0 cm := by obtain ⟨am, cm, h, _, _⟩ := hx.made.shape; exact ⟨am, cm, h⟩
  have hm' : F.length + G.length + N.length ≤ 1048576 := by simp [Dsk.size] at hm; omega
  obtain ⟨w0, hw0⟩ : ∃ w0, w0 = w.alloc (.cells #[a, b, .slice am 0 cm, d] 35) := ⟨_, rfl⟩
  have HB : Hid (Below w.heap.size w w0) := by rw [hw0]; exact Lib.hid ((Below.refl _ _).alloc (Nat.le_refl _) _)
  have K : Hid (Blk w.heap.size (.cells #[a, b, .slice am 0 cm, d] 35) w0) := by rw [hw0]; exact Lib.hid (Blk.new w _)
  have HX := Lib.hid (hx.below HB.out hh)
  have hsz : w.heap.size + 1 ≤ w0.heap.size := by rw [hw0]; simp
  clear hx
  go_enter Tryz.func27, Tryz.ntmps27
  go_wp2_with fail
  simp only [← hw0]
  clear hw0
  refine (impl_ProofRun_nil _ _ _ F am cm _ HX.out.first (by omega) hv).mono ?_
  rintro e w1 ⟨v1, _, rfl, rfl, hb, ho⟩
  replace K := Lib.hid (K.out.below hb (by omega))
  replace HX := Lib.hid (HX.out.below hb (by omega))
  have hs1 := hb.size
  replace HB := Lib.hid (HB.out.trans (hb.mono (by omega)))
  have HO := Lib.hid ho
  clear hb ho
  have c1 := K.out.cell 1
  have c3 := K.out.cell 3
  go_wp2_with fail
  refine (impl_KatValid _ _ _ G _ HX.out.goal (by omega)).mono ?_
  rintro e w2 ⟨rfl, rfl⟩
  go_wp2_with fail
  refine (slEq_any _ _ _ _ _ _ F N _ HO.out.sl HX.out.now).mono ?_
  rintro e w3 ⟨rfl, hb⟩
  replace HB := Lib.hid (HB.out.trans (hb.mono HB.out.size))
  clear hb
  go_wp2
  go_ret
  exact ⟨rfl, HB.out⟩

set_option maxHeartbeats 1600000 in
/-- DeskDone of a desk without moves. -/
theorem impl_DeskDone_nil (lo hi : Nat) (a b c d : Value) (D : Dsk) (w : World) (hx : DeskAt lo hi w a b c d D) (hh : hi ≤ w.heap.size) (hm : D.size ≤ 1048576) (hz : D.made = []) (hv : katV D.first = true) (hg : katV D.goal = true) (he : D.first = D.now) :
    Calls Tryz.prog 29 #[aggD a b c d] w fun e w' => e = .returned (.bool (eqL D.now D.goal)) ∧ Below w.heap.size w w' := by
  obtain ⟨w0, hw0⟩ : ∃ w0, w0 = w.alloc (.cells #[a, b, c, d] 35) := ⟨_, rfl⟩
  have HB : Hid (Below w.heap.size w w0) := by rw [hw0]; exact Lib.hid ((Below.refl _ _).alloc (Nat.le_refl _) _)
  have K : Hid (Blk w.heap.size (.cells #[a, b, c, d] 35) w0) := by rw [hw0]; exact Lib.hid (Blk.new w _)
  have HX := Lib.hid (hx.below HB.out hh)
  have hsz : w.heap.size + 1 ≤ w0.heap.size := by rw [hw0]; simp
  have HE := Lib.hid (show eqL D.first D.now = true by rw [he]; exact eqL_same _)
  clear hx he
  go_enter Tryz.func29, Tryz.ntmps29
  go_wp2_with fail
  simp only [← hw0]
  clear hw0
  refine (impl_DeskValid_nil _ _ a b c d D _ HX.out (by omega) hm hz hv hg).mono ?_
  rintro e w1 ⟨rfl, hb⟩
  rw [HE.out]
  replace K := Lib.hid (K.out.below hb (by omega))
  replace HX := Lib.hid (HX.out.below hb (by omega))
  have hs1 := hb.size
  replace HB := Lib.hid (HB.out.trans (hb.mono (by omega)))
  clear hb
  have c1 := K.out.cell 1
  have c3 := K.out.cell 3
  go_wp2_with fail
  refine (slEq_any _ _ _ _ _ _ D.now D.goal _ HX.out.now HX.out.goal).mono ?_
  rintro e w3 ⟨rfl, hb⟩
  replace HB := Lib.hid (HB.out.trans (hb.mono HB.out.size))
  clear hb
  go_wp2
  go_ret
  exact ⟨rfl, HB.out⟩
end Go.Proofs.YtjpndimhegfbnaaGreatDoor
