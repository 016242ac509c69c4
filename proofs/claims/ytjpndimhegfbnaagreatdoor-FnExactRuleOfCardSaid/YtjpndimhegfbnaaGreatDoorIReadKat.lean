/-
  Texts of walks and plain lemmas for this seat; no condition.
-/
import Derived.Test.YtjpndimhegfbnaaGreatDoorKRead3
import Derived.Test.YtjpndimhegfbnaaGreatDoorKat
import Derived.Recover
import Derived.Defers
namespace Go.Proofs.YtjpndimhegfbnaaGreatDoor
open Go.RowKit

set_option maxRecDepth 100000 in
/-- The deferred function, where nothing has gone wrong: it does nothing. -/
theorem readKat_idle (p q : Addr) (w : World) :
    CallsD Tryz.prog 129 #[.pointer (some p), .pointer (some q)] .returning w fun e u' w' => e = .returned (.tuple #[]) ∧ u' = .returning ∧ w' = w := by
  refine callsD_of_wpS Tryz.func129 rfl fun c₀ cs hu => ?_
  apply wpS_seq
  apply wpS_region
  simp [wpOpsS, go_sem, recoverD, hu, Tryz.ntmps129, Exit.thenS]
  refine wpS_of_wp ?_
  change Code.wp _ _ _ { tmps := #[.pointer (some p), .pointer (some q), undef, undef, undef, .nilIface, undef, undef, undef, undef, undef], defers := [] } w
  go_wp2
  cases c₀
  simp_all [bodyPostS, results, Tryz.results129]

set_option maxRecDepth 100000 in
set_option maxHeartbeats 1600000 in
/-- ReadKat of a text that tells an expression. -/
theorem impl_ReadKat (txt : List UInt8) (e : List Int) (s : ByteArray) (hs : s = ⟨txt.toArray⟩) (w : World) (hM : MapT w) (hl : txt.length ≤ 199) (hp : sumP txt.length txt = some (e, [])) (hv : katV e = true) :
    Calls Tryz.prog 118 #[.string s] w (RetV fun x w' => ∃ v, x = .tuple #[v, .bool true] ∧ Below w.heap.size w w' ∧ OwnI w.heap.size w'.heap.size 3 w' v e) := by
  subst hs
  have hmf : ∀ (fn : Fn) (first cap : Array Value) (w : World), (Instr.makeFunc fn first cap).run Tryz.prog w = .ok (.func fn first cap) w := fun _ _ _ _ => rfl
  have HM := Lib.hid hM.mapB
  have HP := Lib.hid hp
  clear hM hp
  obtain ⟨w3, hw3⟩ : ∃ w3, w3 = (((w.alloc (.cells #[.slice none 0 0] 22)).alloc (.cells #[.bool false] 4)).alloc (.cells #[.string ⟨txt.toArray⟩, .int .i64 0] 175)) := ⟨_, rfl⟩
  have hb : Below w.heap.size w w3 := by rw [hw3]; exact (((Below.refl _ _).alloc (Nat.le_refl _) _).alloc (by simp) _).alloc (by simp; omega) _
  have hsz : w3.heap.size = w.heap.size + 3 := by rw [hw3]; simp
  have hh0 : Blk w.heap.size (.cells #[.slice none 0 0] 22) w3 := by
    rw [hw3]
    exact ((Blk.new w _).below ((Below.refl _ _).alloc (Nat.le_refl _) _) (by simp)).below ((Below.refl _ _).alloc (Nat.le_refl _) _) (by simp; omega)
  have hh1 : Blk (w.heap.size + 1) (.cells #[.bool false] 4) w3 := by
    have h := Blk.new (w.alloc (.cells #[.slice none 0 0] 22)) (.cells #[.bool false] 4)
    rw [alloc_size] at h
    rw [hw3]
    exact h.below ((Below.refl _ _).alloc (Nat.le_refl _) _) (by simp)
  have hh2 : Blk (w.heap.size + 2) (.cells #[.string ⟨txt.toArray⟩, .int .i64 0] 175) w3 := by
    have h := Blk.new ((w.alloc (.cells #[.slice none 0 0] 22)).alloc (.cells #[.bool false] 4)) (.cells #[.string ⟨txt.toArray⟩, .int .i64 0] 175)
    rw [alloc_size, alloc_size] at h
    rw [hw3]
    exact h
  have HK := Lib.hid (show KR (w.heap.size + 2) w3 txt txt from ⟨by rw [show w3.heap[w.heap.size + 2]? = _ from hh2]; simp, by simp, Nat.le_refl _, hl⟩)
  have HB := Lib.hid hb
  have HW := Lib.hid hw3
  have H0 := Lib.hid hh0
  have H1 := Lib.hid hh1
  clear hh0 hh1 hh2 hb hw3
  replace HM := Lib.hid (HM.out.below HB.out (Nat.le_refl _))
  go_enter_defers Tryz.func118, Tryz.ntmps118
  go_wp2_with fail
  simp only [← HW.out]
  refine (sumP_reads txt.length w.heap.size (w.heap.size + 2) w3 txt txt e [] HK.out (Nat.le_refl _) (by omega) HM.out HP.out).mono ?_
  rintro e' w4 ⟨v, rfl, hown, hk, ho⟩
  obtain ⟨a, cap, rfl, _⟩ := Own.open hown
  have hs4 := ho.size
  replace H0 := Lib.hid ((ho.block w.heap.size (by omega) (by omega)).trans H0.out)
  replace H1 := Lib.hid ((ho.block (w.heap.size + 1) (by omega) (by omega)).trans H1.out)
  replace HB := Lib.hid (Below.outside HB.out ho (by omega) HB.out.size)
  have HV := Lib.hid hown
  obtain ⟨k1, k2, _, _⟩ := hk
  have c1 : w4.cell? ⟨w.heap.size + 2, 1, none⟩ = some (.int .i64 (txt.length : Int)) := by rw [Lib.cell_of_heap k1]; rfl
  have e0 : w4.cell? ⟨w.heap.size, 0, none⟩ = some (.slice none 0 0) := by rw [Lib.cell_of_heap H0.out]; rfl
  have e1 : w4.cell? ⟨w.heap.size + 1, 0, none⟩ = some (.bool false) := by rw [Lib.cell_of_heap H1.out]; rfl
  have f0 : w4.frozen? ⟨w.heap.size, 0, none⟩ = false := Lib.frozen_of_heap H0.out 0
  have f1 : w4.frozen? ⟨w.heap.size + 1, 0, none⟩ = false := Lib.frozen_of_heap H1.out 0
  have helen : e.length ≤ 1048576 := by have := sum_short txt.length _ _ _ HP.out; simp at this; omega
  clear k1 k2 ho hown HK
  go_wp2_with fail
  refine (impl_KatValid _ _ _ e _ HV.out.sl helen).mono ?_
  rintro e' w5 ⟨rfl, rfl⟩
  rw [hv]
  go_wp2
  have hown5 := HV.out
  obtain ⟨wz, hwz⟩ : ∃ wz, wz = ((w4.setCell ⟨w.heap.size, 0, none⟩ (.slice a e.length cap)).setCell ⟨w.heap.size + 1, 0, none⟩ (.bool true)) := ⟨_, rfl⟩
  have hoz : Outside w.heap.size (w.heap.size + 2) w4 wz := by
    rw [hwz]
    exact ((Outside.refl _ _ _).setCell (p := ⟨w.heap.size, 0, none⟩) (Nat.le_refl _) (by show w.heap.size < _; omega) _).setCell (p := ⟨w.heap.size + 1, 0, none⟩) (by show w.heap.size ≤ w.heap.size + 1; omega) (by show w.heap.size + 1 < _; omega) _
  have z0 : wz.cell? ⟨w.heap.size, 0, none⟩ = some (.slice a e.length cap) := by
    rw [hwz]
    exact (World.cell?_setCell_other _ _ _ _ (by simp)).trans (World.cell?_setCell_same _ _ _ e0)
  have z1 : wz.cell? ⟨w.heap.size + 1, 0, none⟩ = some (.bool true) := by
    rw [hwz]
    exact World.cell?_setCell_same _ _ _ ((World.cell?_setCell_other _ _ _ _ (by simp)).trans e1)
  simp only [← hwz]
  clear hwz
  refine leaves_cons (f := 129) (args := #[.pointer (some ⟨w.heap.size, 0, none⟩), .pointer (some ⟨w.heap.size + 1, 0, none⟩)]) (by simp) (by simp [go_sem]) ?_
  refine (readKat_idle _ _ _).mono ?_
  rintro e' u' w'' ⟨rfl, rfl, rfl⟩
  simp [Leaves, settle, results, Tryz.results118, go_sem, z0, z1]
  exact RetV.mk _ rfl ⟨_, rfl, Below.outside HB.out hoz (Nat.le_refl _) HB.out.size, (hown5.outside hoz (.inr (by omega))).wide2 (by omega) hoz.size⟩
end Go.Proofs.YtjpndimhegfbnaaGreatDoor
