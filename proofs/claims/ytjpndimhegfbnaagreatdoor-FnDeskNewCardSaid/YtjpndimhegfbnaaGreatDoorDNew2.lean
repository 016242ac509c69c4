/-
  Texts of walks and plain lemmas for this seat; no condition.
-/
import Derived.Test.YtjpndimhegfbnaaGreatDoorDNew
namespace Go.Proofs.YtjpndimhegfbnaaGreatDoor
open Go.RowKit
set_option maxHeartbeats 1600000 in
theorem spec_DeskNew (lo hi lo' hi' : Nat) (v v' : Value) (xs ys : List Int) (w : World) (hx : SlI lo hi w v xs) (hy : SlI lo' hi' w v' ys) (hh : hi ≤ w.heap.size) (hh' : hi' ≤ w.heap.size) (hm : xs.length ≤ 1048576) (hm' : ys.length ≤ 1048576) :
    Calls Tryz.prog 23 #[v, v'] w (DeskRet w (deskNew xs ys)) := by
  obtain ⟨w0, hw0⟩ : ∃ w0, w0 = w.alloc (.cells #[.slice none 0 0, .slice none 0 0, .slice none 0 0, .slice none 0 0] 35) := ⟨_, rfl⟩
  have HB : Hid (Below w.heap.size w w0) := by rw [hw0]; exact Lib.hid ((Below.refl _ _).alloc (Nat.le_refl _) _)
  have K1 : Hid (Blk w.heap.size (.cells #[.slice none 0 0, .slice none 0 0, .slice none 0 0, .slice none 0 0] 35) w0) := by rw [hw0]; exact Lib.hid (Blk.new w _)
  have hsz : w0.heap.size = w.heap.size + 1 := by rw [hw0]; simp
  have hz1 : w.heap.size + 1 ≤ w0.heap.size := by omega
  have hz2 : w0.heap.size ≤ w.heap.size + 1 := by omega
  have HX := Lib.hid (hx.below HB.out hh)
  have HY := Lib.hid (hy.below HB.out hh')
  clear hx hy hsz
  have HD := Lib.hid (show deskNew xs ys = if katV xs && katV ys then ⟨xs, ys, [], xs⟩ else Dsk.none from rfl)
  cases hv : katV xs
  · go_enter Tryz.func23, Tryz.ntmps23
    go_wp2_with fail
    simp only [← hw0]
    clear hw0
    refine (spec_KatValid _ _ _ xs _ HX.out hm).mono ?_
    rintro e w1 ⟨rfl, rfl⟩
    have c0 := K1.out.cell 0
    have c1 := K1.out.cell 1
    have c2 := K1.out.cell 2
    have c3 := K1.out.cell 3
    have f0 := K1.out.free 0
    have f1 := K1.out.free 1
    have f2 := K1.out.free 2
    have f3 := K1.out.free 3
    obtain ⟨wz, hwz⟩ : ∃ wz, wz = ((((w0.setCell ⟨w.heap.size, 0, none⟩ (.slice none 0 0)).setCell ⟨w.heap.size, 1, none⟩ (.slice none 0 0)).setCell ⟨w.heap.size, 2, none⟩ (.slice none 0 0)).setCell ⟨w.heap.size, 3, none⟩ (.slice none 0 0)) := ⟨_, rfl⟩
    have KZ := K1.out.set4 (.slice none 0 0) (.slice none 0 0) (.slice none 0 0) (.slice none 0 0)
    have HO := Outside.set4 w.heap.size w0 (.slice none 0 0) (.slice none 0 0) (.slice none 0 0) (.slice none 0 0)
    rw [← hwz] at KZ HO
    have hsz := HO.size
    replace HB := Lib.hid (Below.outside HB.out HO (Nat.le_refl _) HB.out.size)
    have HOZ := Lib.hid HO
    have q0 := KZ.cell 0
    have q1 := KZ.cell 1
    have q2 := KZ.cell 2
    have q3 := KZ.cell 3
    clear KZ HO
    go_wp2
    simp only [← hwz]
    clear hwz c0 c1 c2 c3 f0 f1 f2 f3
    refine bodyPost_ret (v := aggD (.slice none 0 0) (.slice none 0 0) (.slice none 0 0) (.slice none 0 0)) (by simp [results, Tryz.results23, go_sem, q0, q1, q2, q3]) rfl (RetD.mk _ _ _ _ rfl ⟨?_, HB.out⟩)
    rw [HD.out, hv]
    exact DeskOwn.nils _ _ HB.out.size _
  · go_enter Tryz.func23, Tryz.ntmps23
    go_wp2_with fail
    simp only [← hw0]
    clear hw0
    refine (spec_KatValid _ _ _ xs _ HX.out hm).mono ?_
    rintro e w1 ⟨rfl, rfl⟩
    cases hv' : katV ys
    · go_wp2_with fail
      refine (spec_KatValid _ _ _ ys _ HY.out hm').mono ?_
      rintro e w1 ⟨rfl, rfl⟩
      have c0 := K1.out.cell 0
      have c1 := K1.out.cell 1
      have c2 := K1.out.cell 2
      have c3 := K1.out.cell 3
      have f0 := K1.out.free 0
      have f1 := K1.out.free 1
      have f2 := K1.out.free 2
      have f3 := K1.out.free 3
      obtain ⟨wz, hwz⟩ : ∃ wz, wz = ((((w0.setCell ⟨w.heap.size, 0, none⟩ (.slice none 0 0)).setCell ⟨w.heap.size, 1, none⟩ (.slice none 0 0)).setCell ⟨w.heap.size, 2, none⟩ (.slice none 0 0)).setCell ⟨w.heap.size, 3, none⟩ (.slice none 0 0)) := ⟨_, rfl⟩
      have KZ := K1.out.set4 (.slice none 0 0) (.slice none 0 0) (.slice none 0 0) (.slice none 0 0)
      have HO := Outside.set4 w.heap.size w0 (.slice none 0 0) (.slice none 0 0) (.slice none 0 0) (.slice none 0 0)
      rw [← hwz] at KZ HO
      have hsz := HO.size
      replace HB := Lib.hid (Below.outside HB.out HO (Nat.le_refl _) HB.out.size)
      have HOZ := Lib.hid HO
      have q0 := KZ.cell 0
      have q1 := KZ.cell 1
      have q2 := KZ.cell 2
      have q3 := KZ.cell 3
      clear KZ HO
      go_wp2
      simp only [← hwz]
      clear hwz c0 c1 c2 c3 f0 f1 f2 f3
      refine bodyPost_ret (v := aggD (.slice none 0 0) (.slice none 0 0) (.slice none 0 0) (.slice none 0 0)) (by simp [results, Tryz.results23, go_sem, q0, q1, q2, q3]) rfl (RetD.mk _ _ _ _ rfl ⟨?_, HB.out⟩)
      rw [HD.out, hv, hv']
      exact DeskOwn.nils _ _ HB.out.size _
    · go_wp2_with fail
      refine (spec_KatValid _ _ _ ys _ HY.out hm').mono ?_
      rintro e w1 ⟨rfl, rfl⟩
      have OE := Lib.hid (Own.lit 1 3 w0 [] 0 (by omega) rfl)
      have hbe : Below w0.heap.size w0 (w0.alloc (.cells ([] : List Value).toArray 3)) := (Below.refl _ _).alloc (Nat.le_refl _) _
      go_wp2_with (at_builtin; refine wpList_app_sl rfl _ _ 22 rfl 3 (.int .i64 0) 1 8 Tryz.underlying22 info_int rfl (by decide) (by decide) rfl OE.out rfl (HX.out.below hbe (by omega)) (ints_one _) ?c1 ?c2 ?_)
      case c1 => omega
      case c2 => simp
      intro v2 w2 ob _ ho _
      have hsA : w0.heap.size ≤ w2.heap.size := by have := ho.size; simp at this; omega
      have hb : Below w0.heap.size w0 w2 := Below.outside hbe ho (Nat.le_refl _) (by simp)
      have OA := Lib.hid (show OwnI w0.heap.size w2.heap.size 3 w2 v2 xs from ob)
      obtain ⟨aa, ca, rfl⟩ := Own.shape OA.out
      replace HB := Lib.hid (HB.out.trans (hb.mono HB.out.size))
      replace K1 := Lib.hid (K1.out.below hb (by omega)); replace HX := Lib.hid (HX.out.below hb (by omega)); replace HY := Lib.hid (HY.out.below hb (by omega))
      clear hb ob ho hbe OE
      have OE := Lib.hid (Own.lit 1 3 w2 [] 0 (by omega) rfl)
      have hbe : Below w2.heap.size w2 (w2.alloc (.cells ([] : List Value).toArray 3)) := (Below.refl _ _).alloc (Nat.le_refl _) _
      go_wp2_with (at_builtin; refine wpList_app_sl rfl _ _ 22 rfl 3 (.int .i64 0) 1 8 Tryz.underlying22 info_int rfl (by decide) (by decide) rfl OE.out rfl (HY.out.below hbe (by omega)) (ints_one _) ?c1 ?c2 ?_)
      case c1 => omega
      case c2 => simp
      intro v2 w3 ob _ ho _
      have hsB : w2.heap.size ≤ w3.heap.size := by have := ho.size; simp at this; omega
      have hb : Below w2.heap.size w2 w3 := Below.outside hbe ho (Nat.le_refl _) (by simp)
      have OB := Lib.hid (show OwnI w2.heap.size w3.heap.size 3 w3 v2 ys from ob)
      obtain ⟨ab, cb, rfl⟩ := Own.shape OB.out
      replace HB := Lib.hid (HB.out.trans (hb.mono HB.out.size))
      replace K1 := Lib.hid (K1.out.below hb (by omega)); replace HX := Lib.hid (HX.out.below hb (by omega)); replace HY := Lib.hid (HY.out.below hb (by omega)); replace OA := Lib.hid (OA.out.below hb (by omega))
      clear hb ob ho hbe OE
      obtain ⟨w4, hw4⟩ : ∃ w4, w4 = w3.alloc (.cells #[] 66) := ⟨_, rfl⟩
      have hb : Below w3.heap.size w3 w4 := by rw [hw4]; exact (Below.refl _ _).alloc (Nat.le_refl _) _
      have hs4 : w3.heap.size + 1 ≤ w4.heap.size := by rw [hw4]; simp
      have OC : Hid (OwnM w3.heap.size (w3.heap.size + 1) 66 w4 (.slice (some ⟨w3.heap.size, 0, none⟩) 0 0) []) := by rw [hw4]; exact Lib.hid (Own.lit 3 66 w3 [] 0 (by omega) rfl)
      replace HB := Lib.hid (HB.out.trans (hb.mono HB.out.size))
      replace HX := Lib.hid (HX.out.below hb (by omega)); replace HY := Lib.hid (HY.out.below hb (by omega)); replace OA := Lib.hid (OA.out.below hb (by omega)); replace OB := Lib.hid (OB.out.below hb (by omega))
      replace K1 := Lib.hid (K1.out.below hb K1.out.lt)
      clear hb
      have OE : Hid (Own 1 (w3.heap.size + 1) (w3.heap.size + 2) 3 ((w3.alloc (.cells #[] 66)).alloc (.cells #[] 3)) (.slice (some ⟨w3.heap.size + 1, 0, none⟩) 0 0) 0 []) := by
        have h := Own.lit 1 3 (w3.alloc (.cells #[] 66)) [] 0 (by omega) rfl
        rw [alloc_size] at h
        exact Lib.hid h
      have hbe : Below w4.heap.size w4 ((w3.alloc (.cells #[] 66)).alloc (.cells #[] 3)) := by rw [hw4]; exact (Below.refl _ _).alloc (Nat.le_refl _) _
      have hs4' : w4.heap.size = w3.heap.size + 1 := by rw [hw4]; simp
      have HS4 := Lib.hid hs4'
      have HXE := Lib.hid (HX.out.below hbe (by omega))
      have HBE := Lib.hid hbe
      clear hw4 hs4' hbe
      go_wp2_with (at_builtin; refine wpList_app_sl rfl _ _ 22 rfl 3 (.int .i64 0) 1 8 Tryz.underlying22 info_int rfl (by decide) (by decide) rfl OE.out rfl HXE.out (ints_one _) ?c1 ?c2 ?_)
      case c1 => omega
      case c2 => simp
      intro v2 w5 ob _ ho _
      have hs4' := HS4.out
      have hsD : w4.heap.size ≤ w5.heap.size := by have := ho.size; simp at this; omega
      have hb : Below w4.heap.size w4 w5 := Below.outside HBE.out ho (by omega) (by simp; omega)
      have OD := Lib.hid (show OwnI (w3.heap.size + 1) w5.heap.size 3 w5 v2 xs from ob)
      obtain ⟨ad, cd, rfl⟩ := Own.shape OD.out
      replace HB := Lib.hid (HB.out.trans (hb.mono HB.out.size))
      replace K1 := Lib.hid (K1.out.below hb (by omega)); replace OA := Lib.hid (OA.out.below hb (by omega)); replace OB := Lib.hid (OB.out.below hb (by omega)); replace OC := Lib.hid (OC.out.below hb (by omega))
      clear hb ob ho HBE HXE OE hs4'
      have c0 := K1.out.cell 0
      have c1 := K1.out.cell 1
      have c2 := K1.out.cell 2
      have c3 := K1.out.cell 3
      have f0 := K1.out.free 0
      have f1 := K1.out.free 1
      have f2 := K1.out.free 2
      have f3 := K1.out.free 3
      obtain ⟨wz, hwz⟩ : ∃ wz, wz = ((((w5.setCell ⟨w.heap.size, 0, none⟩ (.slice aa xs.length ca)).setCell ⟨w.heap.size, 1, none⟩ (.slice ab ys.length cb)).setCell ⟨w.heap.size, 2, none⟩ (.slice (some ⟨w3.heap.size, 0, none⟩) 0 0)).setCell ⟨w.heap.size, 3, none⟩ (.slice ad xs.length cd)) := ⟨_, rfl⟩
      have KZ := K1.out.set4 (.slice aa xs.length ca) (.slice ab ys.length cb) (.slice (some ⟨w3.heap.size, 0, none⟩) 0 0) (.slice ad xs.length cd)
      have HO := Outside.set4 w.heap.size w5 (.slice aa xs.length ca) (.slice ab ys.length cb) (.slice (some ⟨w3.heap.size, 0, none⟩) 0 0) (.slice ad xs.length cd)
      rw [← hwz] at KZ HO
      have hsz := HO.size
      replace HB := Lib.hid (Below.outside HB.out HO (Nat.le_refl _) HB.out.size)
      have HOZ := Lib.hid HO
      have q0 := KZ.cell 0
      have q1 := KZ.cell 1
      have q2 := KZ.cell 2
      have q3 := KZ.cell 3
      clear KZ HO
      go_wp2
      simp only [← hwz]
      clear hwz c0 c1 c2 c3 f0 f1 f2 f3
      refine bodyPost_ret (v := aggD (.slice aa xs.length ca) (.slice ab ys.length cb) (.slice (some ⟨w3.heap.size, 0, none⟩) 0 0) (.slice ad xs.length cd)) (by simp [results, Tryz.results23, go_sem, q0, q1, q2, q3]) rfl (RetD.mk _ _ _ _ rfl ⟨?_, HB.out⟩)
      rw [HD.out, hv, hv']
      exact ⟨_, _, _, _, _, _, _, _, OA.out.outside HOZ.out (.inr (by omega)), OB.out.outside HOZ.out (.inr (by omega)), OC.out.outside HOZ.out (.inr (by omega)), OD.out.outside HOZ.out (.inr (by omega)), by omega, by omega, by omega, by omega, by omega, by omega, by omega, by omega, by omega, by omega⟩
end Go.Proofs.YtjpndimhegfbnaaGreatDoor
