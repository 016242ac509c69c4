/-
  Texts of walks and plain lemmas for this seat; no condition.
-/
import Derived.Test.YtjpndimhegfbnaaGreatDoorDesk
import Derived.Test.YtjpndimhegfbnaaGreatDoorClone
namespace Go.Proofs.YtjpndimhegfbnaaGreatDoor
open Go.RowKit

def RetD (P : Value → Value → Value → Value → World → Prop) (e : Ending) (w' : World) : Prop := ∃ a b c d, e = .returned (aggD a b c d) ∧ P a b c d w'
theorem RetD.mk {P : Value → Value → Value → Value → World → Prop} {e : Ending} {w' : World} (a b c d : Value) (h : e = .returned (aggD a b c d)) (hp : P a b c d w') : RetD P e w' := ⟨a, b, c, d, h, hp⟩

def Dsk.none : Dsk := ⟨[], [], [], []⟩
def deskNew (xs ys : List Int) : Dsk := if katV xs && katV ys then ⟨xs, ys, [], xs⟩ else Dsk.none

/-- A fresh desk is handed back. -/
abbrev DeskRet (w : World) (D : Dsk) : Ending → World → Prop := RetD fun a b c d w' => DeskOwn w.heap.size w'.heap.size w' a b c d D ∧ Below w.heap.size w w'

theorem DeskOwn.nils (lo hi : Nat) (h : lo ≤ hi) (w : World) : DeskOwn lo hi w (.slice none 0 0) (.slice none 0 0) (.slice none 0 0) (.slice none 0 0) Dsk.none :=
  ⟨lo, lo, lo, lo, lo, lo, lo, lo, Own.nil _ _ _ _ _, Own.nil _ _ _ _ _, Own.nil _ _ _ _ _, Own.nil _ _ _ _ _, by omega, by omega, by omega, by omega, by omega, by omega, by omega, by omega, by omega, by omega⟩

theorem info_desk : (Tryz.prog.info? 35).map (fun i => (i.zero, i.size)) = some (some (.agg #[.slice none 0 0, .slice none 0 0, .slice none 0 0, .slice none 0 0]), 4) := by kernel_rfl

/-- Four stores into a block of four cells. -/
theorem Blk.set4 {g : Nat} {e : TypeId} {w : World} {x0 x1 x2 x3 : Value} (h : Blk g (.cells #[x0, x1, x2, x3] e (0, 0)) w) (a b c d : Value) :
    Blk g (.cells #[a, b, c, d] e (0, 0)) ((((w.setCell ⟨g, 0, none⟩ a).setCell ⟨g, 1, none⟩ b).setCell ⟨g, 2, none⟩ c).setCell ⟨g, 3, none⟩ d) := by
  have h' : w.heap[g]? = _ := h
  show ((((w.setCell ⟨g, 0, none⟩ a).setCell ⟨g, 1, none⟩ b).setCell ⟨g, 2, none⟩ c).setCell ⟨g, 3, none⟩ d).heap[g]? = _
  simp [World.setCell, Array.getElem?_modify, h']
theorem Outside.set4 (g : Nat) (w : World) (a b c d : Value) : Outside g (g + 1) w ((((w.setCell ⟨g, 0, none⟩ a).setCell ⟨g, 1, none⟩ b).setCell ⟨g, 2, none⟩ c).setCell ⟨g, 3, none⟩ d) :=
  ((((Outside.refl _ _ _).setCell (p := ⟨g, 0, none⟩) (Nat.le_refl _) (Nat.lt_succ_self _) _).setCell (p := ⟨g, 1, none⟩) (Nat.le_refl _) (Nat.lt_succ_self _) _).setCell (p := ⟨g, 2, none⟩) (Nat.le_refl _) (Nat.lt_succ_self _) _).setCell (p := ⟨g, 3, none⟩) (Nat.le_refl _) (Nat.lt_succ_self _) _

set_option maxHeartbeats 1600000 in
theorem impl_DeskNew (lo hi lo' hi' : Nat) (v v' : Value) (xs ys : List Int) (w : World) (hx : SlI lo hi w v xs) (hy : SlI lo' hi' w v' ys) (hh : hi ≤ w.heap.size) (hh' : hi' ≤ w.heap.size) (hm : xs.length ≤ 1048576) (hm' : ys.length ≤ 1048576) :
    Calls Tryz.prog 21 #[v, v'] w (DeskRet w (deskNew xs ys)) := by
  obtain ⟨w0, hw0⟩ : ∃ w0, w0 = w.alloc (.cells #[.slice none 0 0, .slice none 0 0, .slice none 0 0, .slice none 0 0] 35) := ⟨_, rfl⟩
  have HB : Hid (Below w.heap.size w w0) := by rw [hw0]; exact Lib.hid ((Below.refl _ _).alloc (Nat.le_refl _) _)
  have K1 : Hid (Blk w.heap.size (.cells #[.slice none 0 0, .slice none 0 0, .slice none 0 0, .slice none 0 0] 35) w0) := by rw [hw0]; exact Lib.hid (Blk.new w _)
  have hsz : w0.heap.size = w.heap.size + 1 := by rw [hw0]; simp
  have hz1 : w.heap.size + 1 ≤ w0.heap.size := by omega
  have hz2 : w0.heap.size ≤ w.heap.size + 1 := by omega
  have HX := Lib.hid (hx.below HB.out hh)
  have HY := Lib.hid (hy.below HB.out hh')
  clear hx hy hsz
  have HD := Lib.hid (show deskNew xs ys = if katV xs && katV ys then ⟨xs, ys, [], xs⟩ else Dsk.none from rfl)
  cases hv : katV xs
  · go_enter Tryz.func21, Tryz.ntmps21
    go_wp2_with fail
    simp only [← hw0]
    clear hw0
    refine (impl_KatValid _ _ _ xs _ HX.out hm).mono ?_
    rintro e w1 ⟨rfl, rfl⟩
    have c0 := K1.out.cell 0
    have c1 := K1.out.cell 1
    have c2 := K1.out.cell 2
    have c3 := K1.out.cell 3
    have f0 := K1.out.free 0
    have f1 := K1.out.free 1
    have f2 := K1.out.free 2
    have f3 := K1.out.free 3
    obtain ⟨wz, hwz⟩ : ∃ wz, wz = ((((w0.setCell ⟨w.heap.size, 0, none⟩ (.slice none 0 0)).setCell ⟨w.heap.size, 1, none⟩ (.slice none 0 0)).setCell ⟨w.heap.size, 2, none⟩ (.slice none 0 0)).setCell ⟨w.heap.size, 3, none⟩ (.slice none 0 0)) := ⟨_, rfl⟩
    have KZ := K1.out.set4 (.slice none 0 0) (.slice none 0 0) (.slice none 0 0) (.slice none 0 0)
    have HO := Outside.set4 w.heap.size w0 (.slice none 0 0) (.slice none 0 0) (.slice none 0 0) (.slice none 0 0)
    rw [← hwz] at KZ HO
    have hsz := HO.size
    replace HB := Lib.hid (Below.outside HB.out HO (Nat.le_refl _) HB.out.size)
    have HOZ := Lib.hid HO
    have q0 := KZ.cell 0
    have q1 := KZ.cell 1
    have q2 := KZ.cell 2
    have q3 := KZ.cell 3
    clear KZ HO
    go_wp2
    simp only [← hwz]
    clear hwz c0 c1 c2 c3 f0 f1 f2 f3
    refine bodyPost_ret (v := aggD (.slice none 0 0) (.slice none 0 0) (.slice none 0 0) (.slice none 0 0)) (by simp [results, Tryz.results21, go_sem, q0, q1, q2, q3]) rfl (RetD.mk _ _ _ _ rfl ⟨?_, HB.out⟩)
    rw [HD.out, hv]
    exact DeskOwn.nils _ _ HB.out.size _
  · go_enter Tryz.func21, Tryz.ntmps21
    go_wp2_with fail
    simp only [← hw0]
    clear hw0
    refine (impl_KatValid _ _ _ xs _ HX.out hm).mono ?_
    rintro e w1 ⟨rfl, rfl⟩
    cases hv' : katV ys
    · go_wp2_with fail
      refine (impl_KatValid _ _ _ ys _ HY.out hm').mono ?_
      rintro e w1 ⟨rfl, rfl⟩
      have c0 := K1.out.cell 0
      have c1 := K1.out.cell 1
      have c2 := K1.out.cell 2
      have c3 := K1.out.cell 3
      have f0 := K1.out.free 0
      have f1 := K1.out.free 1
      have f2 := K1.out.free 2
      have f3 := K1.out.free 3
      obtain ⟨wz, hwz⟩ : ∃ wz, wz = ((((w0.setCell ⟨w.heap.size, 0, none⟩ (.slice none 0 0)).setCell ⟨w.heap.size, 1, none⟩ (.slice none 0 0)).setCell ⟨w.heap.size, 2, none⟩ (.slice none 0 0)).setCell ⟨w.heap.size, 3, none⟩ (.slice none 0 0)) := ⟨_, rfl⟩
      have KZ := K1.out.set4 (.slice none 0 0) (.slice none 0 0) (.slice none 0 0) (.slice none 0 0)
      have HO := Outside.set4 w.heap.size w0 (.slice none 0 0) (.slice none 0 0) (.slice none 0 0) (.slice none 0 0)
      rw [← hwz] at KZ HO
      have hsz := HO.size
      replace HB := Lib.hid (Below.outside HB.out HO (Nat.le_refl _) HB.out.size)
      have HOZ := Lib.hid HO
      have q0 := KZ.cell 0
      have q1 := KZ.cell 1
      have q2 := KZ.cell 2
      have q3 := KZ.cell 3
      clear KZ HO
      go_wp2
      simp only [← hwz]
      clear hwz c0 c1 c2 c3 f0 f1 f2 f3
      refine bodyPost_ret (v := aggD (.slice none 0 0) (.slice none 0 0) (.slice none 0 0) (.slice none 0 0)) (by simp [results, Tryz.results21, go_sem, q0, q1, q2, q3]) rfl (RetD.mk _ _ _ _ rfl ⟨?_, HB.out⟩)
      rw [HD.out, hv, hv']
      exact DeskOwn.nils _ _ HB.out.size _
    · go_wp2_with fail
      refine (impl_KatValid _ _ _ ys _ HY.out hm').mono ?_
      rintro e w1 ⟨rfl, rfl⟩
      go_wp2_with fail
      refine (cloneI_any _ _ _ xs _ HX.out hm).mono ?_
      rintro e w2 ⟨va, rfl, hb, oa⟩
      obtain ⟨aa, ca, rfl⟩ := Own.shape oa
      have OA := Lib.hid oa
      have hs2 := hb.size
      replace HB := Lib.hid (HB.out.trans (hb.mono HB.out.size))
      replace K1 := Lib.hid (K1.out.below hb (by omega)); replace HX := Lib.hid (HX.out.below hb (by omega)); replace HY := Lib.hid (HY.out.below hb (by omega))
      clear hb oa
      go_wp2_with fail
      refine (cloneI_any _ _ _ ys _ HY.out hm').mono ?_
      rintro e w3 ⟨vb, rfl, hb, oa⟩
      obtain ⟨ab, cb, rfl⟩ := Own.shape oa
      have OB := Lib.hid oa
      have hs3 := hb.size
      replace HB := Lib.hid (HB.out.trans (hb.mono HB.out.size))
      replace K1 := Lib.hid (K1.out.below hb (by omega)); replace HX := Lib.hid (HX.out.below hb (by omega)); replace HY := Lib.hid (HY.out.below hb (by omega)); replace OA := Lib.hid (OA.out.below hb (by omega))
      clear hb oa
      go_wp2_with fail
      refine (cloneI_any _ _ _ xs _ HX.out hm).mono ?_
      rintro e w4 ⟨vd, rfl, hb, oa⟩
      obtain ⟨ad, cd, rfl⟩ := Own.shape oa
      have OD := Lib.hid oa
      have hs4 := hb.size
      replace HB := Lib.hid (HB.out.trans (hb.mono HB.out.size))
      replace K1 := Lib.hid (K1.out.below hb (by omega)); replace HX := Lib.hid (HX.out.below hb (by omega)); replace HY := Lib.hid (HY.out.below hb (by omega)); replace OA := Lib.hid (OA.out.below hb (by omega)); replace OB := Lib.hid (OB.out.below hb (by omega))
      clear hb oa
      have c0 := K1.out.cell 0
      have c1 := K1.out.cell 1
      have c2 := K1.out.cell 2
      have c3 := K1.out.cell 3
      have f0 := K1.out.free 0
      have f1 := K1.out.free 1
      have f2 := K1.out.free 2
      have f3 := K1.out.free 3
      obtain ⟨wz, hwz⟩ : ∃ wz, wz = ((((w4.setCell ⟨w.heap.size, 0, none⟩ (.slice aa xs.length ca)).setCell ⟨w.heap.size, 1, none⟩ (.slice ab ys.length cb)).setCell ⟨w.heap.size, 2, none⟩ (.slice none 0 0)).setCell ⟨w.heap.size, 3, none⟩ (.slice ad xs.length cd)) := ⟨_, rfl⟩
      have KZ := K1.out.set4 (.slice aa xs.length ca) (.slice ab ys.length cb) (.slice none 0 0) (.slice ad xs.length cd)
      have HO := Outside.set4 w.heap.size w4 (.slice aa xs.length ca) (.slice ab ys.length cb) (.slice none 0 0) (.slice ad xs.length cd)
      rw [← hwz] at KZ HO
      have hsz := HO.size
      replace HB := Lib.hid (Below.outside HB.out HO (Nat.le_refl _) HB.out.size)
      have HOZ := Lib.hid HO
      have q0 := KZ.cell 0
      have q1 := KZ.cell 1
      have q2 := KZ.cell 2
      have q3 := KZ.cell 3
      clear KZ HO
      go_wp2
      simp only [← hwz]
      clear hwz c0 c1 c2 c3 f0 f1 f2 f3
      refine bodyPost_ret (v := aggD (.slice aa xs.length ca) (.slice ab ys.length cb) (.slice none 0 0) (.slice ad xs.length cd)) (by simp [results, Tryz.results21, go_sem, q0, q1, q2, q3]) rfl (RetD.mk _ _ _ _ rfl ⟨?_, HB.out⟩)
      rw [HD.out, hv, hv']
      exact ⟨_, _, _, _, w.heap.size, w.heap.size, _, _, OA.out.outside HOZ.out (.inr (by omega)), OB.out.outside HOZ.out (.inr (by omega)), Own.nil _ _ _ _ _, OD.out.outside HOZ.out (.inr (by omega)), by omega, by omega, by omega, by omega, by omega, by omega, by omega, by omega, by omega, by omega⟩
end Go.Proofs.YtjpndimhegfbnaaGreatDoor
