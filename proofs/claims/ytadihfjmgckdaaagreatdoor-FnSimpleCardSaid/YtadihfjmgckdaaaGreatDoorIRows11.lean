/-
  Texts of walks and plain lemmas for this seat; no condition.
-/
import Derived.Test.YtadihfjmgckdaaaGreatDoorIRows10
import Derived.Test.YtadihfjmgckdaaaGreatDoorGE
import Derived.Deep.RegionHeld3
import Derived.Deep.DeepCutAuto
import Derived.Deep.DrawnRows
namespace Go.Proofs.YtadihfjmgckdaaaGreatDoor
open Go.RowKit

set_option maxRecDepth 100000 in
set_option maxHeartbeats 6400000 in
theorem impl_RowsOf (la ha lo hi : Nat) (M : Mo) (va ve : Value) (e : List Int) (w : World) (hA : SlLL la ha w va M.acts) (hha : ha ≤ w.heap.size) (hm : M.acts.length ≤ 1048576) (hm2 : ∀ x ∈ M.acts, x.length ≤ 1048576) (hx : SlI lo hi w ve e) (hhi : hi ≤ w.heap.size) (hme : e.length ≤ 1048576) :
    Calls Tryz.prog 17 #[aggMo M va, ve] w (RowsNew w (rowsV M e)) := by
  obtain ⟨n, P, Q, acts⟩ := M
  obtain ⟨sa, sc, rfl, _, _⟩ := hA.shape
  obtain ⟨xa, xc, rfl, _, _⟩ := Sl.shape hx
  simp only at hA hm hm2 ⊢
  have HV1 : Hid (modB ⟨n, P, Q, acts⟩ = false → rowsV ⟨n, P, Q, acts⟩ e = []) := Lib.hid fun h => by simp [rowsV, h]
  have HV2 : Hid (katV e = false → rowsV ⟨n, P, Q, acts⟩ e = []) := Lib.hid fun h => by simp [rowsV, h]
  obtain ⟨w0, hw0⟩ : ∃ w0, w0 = w.alloc (.cells #[.int .i64 n, .int .i64 P, .int .i64 Q, .slice sa acts.length sc] 31) := ⟨_, rfl⟩
  obtain ⟨hb0, KB_, hs0⟩ := box_facts3 hw0
  have KB := Lib.hid KB_
  have HB := Lib.hid hb0
  have HA := Lib.hid (hA.below hb0 hha)
  have HX := Lib.hid (hx.below hb0 hhi)
  have HM2 := Lib.hid hm2
  have HW := Lib.hid hw0
  have k0 := KB.out.cell 0
  have k1 := KB.out.cell 1
  have k2 := KB.out.cell 2
  have k3 := KB.out.cell 3
  clear hA hx hm2 hb0 KB_ hw0
  go_enter Tryz.func17, Tryz.ntmps17
  go_upto_region 1 with (rw [← HW.out])
  try rw [← HW.out]
  go_wp2_with fail
  refine (implModelValid la ha ⟨n, P, Q, acts⟩ _ w0 HA.out (by omega) hm HM2.out).mono ?_
  rintro e1 w1 ⟨rfl, hb1⟩
  clear k0 k1 k2 k3
  have hs1 := hb1.size
  replace KB := Lib.hid (KB.out.below hb1 KB.out.lt)
  replace HA := Lib.hid (HA.out.below hb1 (by omega))
  replace HX := Lib.hid (HX.out.below hb1 (by omega))
  replace HB := Lib.hid (HB.out.trans (hb1.mono (by omega)))
  clear hb1
  cases h1 : modB ⟨n, P, Q, acts⟩
  · have HE := Lib.hid (HV1.out h1)
    clear h1
    go_wp2
    go_ret
    exact RetV.mk _ rfl ⟨by rw [HE.out]; exact Own.nil _ _ _ _ _, HB.out⟩
  · go_wp2_with fail
    refine (impl_KatValid _ _ _ e w1 HX.out hme).mono ?_
    rintro e2 _ ⟨rfl, rfl⟩
    cases h2 : katV e
    · have HE := Lib.hid (HV2.out h2)
      clear h2
      go_wp2
      go_ret
      exact RetV.mk _ rfl ⟨by rw [HE.out]; exact Own.nil _ _ _ _ _, HB.out⟩
    · obtain ⟨n', p', q', e1, e2, e3, hok⟩ := modB_open h1
      simp only at e1 e2 e3 hok
      subst e1 e2 e3
      obtain ⟨T, t1, t2, t3, t4⟩ := katV_tree h2
      have hrv : rowsV ⟨(n' : Int), (p' : Int), (q' : Int), acts⟩ e = rowsR n' (den (leafM ⟨(n' : Int), (p' : Int), (q' : Int), acts⟩) T) := by
        rw [rowsV, h1, h2, ← t2, treeOf_post t1]
        rfl
      have HRV := Lib.hid hrv
      have HT := Lib.hid t3
      have HOK := Lib.hid t1
      have HMO := Lib.hid hok
      have hl40 := (kat_len h2).2
      clear hrv t1 t2 t3 t4 hok h1 h2 HV1 HV2
      have k0 := (KB.out.dr).cell 0
      have k1 := (KB.out.dr).cell 1
      have k2 := (KB.out.dr).cell 2
      have k3 := (KB.out.dr).cell 3
      have HBD : Hid (Below w1.heap.size w1 w1.drew) := Lib.hid (Below.drew (Below.refl _ _))
      have hdz : w1.drew.heap.size = w1.heap.size := rfl
      go_upto_region 3 with fail
      go_region_held3 (fun w' => w'.cell? ⟨w.heap.size, 0, none⟩ = some (.int .i64 (n' : Int)) ∧ w'.cell? ⟨w.heap.size, 1, none⟩ = some (.int .i64 (p' : Int)) ∧ w'.cell? ⟨w.heap.size, 2, none⟩ = some (.int .i64 (q' : Int)) ∧ w'.cell? ⟨w.heap.size, 3, none⟩ = some (.slice sa acts.length sc)) (first | with_reducible assumption | go_keep) (first
        | (go_at_call 51; refine (implBuild _ e T w1.drew (SlI.rd (HX.out.below HBD.out (by omega)) (by omega)) (by omega) HT.out).mono ?_; rintro e3 w3 ⟨v3, rfl, hb3, hrt⟩; (have hs3 := hb3.size); (have kb3 := Blk.below KB.out.dr hb3 KB.out.lt); (have m0 := kb3.cell 0); (have m1 := kb3.cell 1); (have m2 := kb3.cell 2); (have m3 := kb3.cell 3); (have K3 := Lib.hid kb3); (have HB3 := Lib.hid (HB.out.drew.trans (hb3.mono (by show w.heap.size ≤ w1.heap.size; omega)))); (have HA3 := Lib.hid ((HA.out.below HBD.out (by omega)).below hb3 (by omega))); (have HRT := Lib.hid hrt); clear kb3 hb3 hrt)
        | (go_at_call 50; refine (rows_any HOK.out _ la ha n' p' q' acts _ _ w3 HMO.out HA3.out (by omega) HRT.out HOK.out).mono ?_; rintro e4 w4 ⟨v4, rfl, o4_, hb4⟩; (have hs4 := hb4.size); (have kb4 := Blk.below K3.out hb4 K3.out.lt); (have m0 := kb4.cell 0); (have m1 := kb4.cell 1); (have m2 := kb4.cell 2); (have m3 := kb4.cell 3); obtain ⟨x4a, x4c, rfl⟩ := Own.shape o4_; (have O4 := Lib.hid o4_); (have HB4 := Lib.hid (HB3.out.trans (hb4.mono (by omega)))); clear kb4 hb4 o4_))
      go_wp2
      go_ret
      exact RetV.mk _ rfl ⟨by rw [HRV.out]; exact O4.out.lower (by omega) (Nat.le_refl _), HB4.out⟩
end Go.Proofs.YtadihfjmgckdaaaGreatDoor
