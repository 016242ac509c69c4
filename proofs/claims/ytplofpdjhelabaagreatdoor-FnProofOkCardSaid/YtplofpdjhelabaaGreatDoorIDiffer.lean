/-
  Texts of walks and plain lemmas for this seat; no condition.
-/
import Derived.Test.YtplofpdjhelabaaGreatDoorGU
import Derived.Test.YtplofpdjhelabaaGreatDoorIFirst
import Derived.Deep.RegionHeldLaw
import Derived.Deep.RegionHeld3
import Derived.Deep.DeepCutAuto
import Derived.Deep.DrawnRows
namespace Go.Proofs.YtplofpdjhelabaaGreatDoor
open Go.RowKit
set_option linter.unusedVariables false

set_option maxRecDepth 100000 in
set_option maxHeartbeats 6400000 in
theorem differ_any (lo hi lo' hi' : Nat) (ve vf : Value) (e f : List Int) (w : World) (hx : SlI lo hi w ve e) (hy : SlI lo' hi' w vf f) (hh : hi ≤ w.heap.size) (hh' : hi' ≤ w.heap.size) (hm : e.length ≤ 1048576) (hm' : f.length ≤ 1048576) :
    Calls Tryz.prog 41 #[ve, vf] w (RetV fun r w' => ∃ v ok, r = .tuple #[v, .bool ok] ∧ (ok = true → Apart e f) ∧ Below w.heap.size w w') := by
  have HX := Lib.hid hx
  have HY := Lib.hid hy
  clear hx hy
  go_enter Tryz.func41, Tryz.ntmps41
  go_wp2_with fail
  refine (autosOf_any _ _ _ _ _ _ e f w HX.out HY.out hh hh' hm hm').mono ?_
  rintro e1 w1 ⟨r, rfl, v1, v2, v3, v4, ok, rfl, ha⟩
  have hz1 := ha.below.size
  have HA := Lib.hid ha
  clear ha
  obtain ⟨⟨a1, n1, d1, rfl⟩, a2, n2, d2, rfl⟩ := HA.out.tg.one.shape
  obtain ⟨⟨a3, n3, d3, rfl⟩, a4, n4, d4, rfl⟩ := HA.out.tg.two.shape
  obtain ⟨w2, hw2⟩ : ∃ w2, w2 = w1.alloc (.cells #[.slice a1 n1 d1, .slice a2 n2 d2, .slice a3 n3 d3, .slice a4 n4 d4] 107) := ⟨_, rfl⟩
  obtain ⟨hb2, KT, hs2⟩ := box_facts2 hw2
  have HB2 := Lib.hid (HA.out.below.trans (hb2.mono hz1))
  have HT2 := Lib.hid ((HA.out.tg.below hb2 (Nat.le_refl _)))
  have HK2 := Lib.hid KT
  clear hb2 KT
  cases ok
  · go_wp2
    rw [← hw2]
    refine bodyPost_ret (v := .tuple #[.slice none 0 0, .bool false]) (by simp [results, Tryz.results41, go_sem]) rfl ?_
    exact RetV.mk _ rfl ⟨_, _, rfl, (fun h => by cases h), HB2.out⟩
  · go_wp2_with fail
    simp only [← hw2]
    clear hw2
    refine (pairs_any _ _ _ _ _ _ _ _ w2 HT2.out (by omega) (autV_ok e) (autV_ok f) (fun _ => True) trivial (fun _ _ _ _ => trivial)).mono ?_
    rintro e3 w3 ⟨r, rfl, v, ok, ps, rfl, _, _, _, hb3⟩
    have hz3 := hb3.size
    have HB3 := Lib.hid (HB2.out.trans (hb3.mono (by omega)))
    have HT3 := Lib.hid (HT2.out.below hb3 (by omega))
    have k3 := HK2.out.below hb3 (by omega)
    have c0 := k3.cell 0
    have c1 := k3.cell 1
    have c2 := k3.cell 2
    have c3 := k3.cell 3
    clear hb3 k3
    cases ok
    · go_wp2
      refine bodyPost_ret (v := .tuple #[.slice none 0 0, .bool false]) (by simp [results, Tryz.results41, go_sem]) rfl ?_
      exact RetV.mk _ rfl ⟨_, _, rfl, (fun h => by cases h), HB3.out⟩
    · go_wp2_with fail
      refine (firstTrace_any _ _ _ _ _ _ _ _ w3 HT3.out (by omega) (autV_ok e) (autV_ok f)).mono ?_
      rintro e4 w4 ⟨r, rfl, v4', ok, rfl, hok, hb4⟩
      have HB4 := Lib.hid (HB3.out.trans (hb4.mono (by omega)))
      have HOK := Lib.hid (show ok = true → Apart e f from fun h => ⟨(HA.out.open_ rfl).1, (HA.out.open_ rfl).2, hok h⟩)
      clear hok hb4
      go_wp2
      refine bodyPost_ret (v := .tuple #[v4', .bool ok]) (by simp [results, Tryz.results41, go_sem]) rfl ?_
      exact RetV.mk _ rfl ⟨_, _, rfl, HOK.out, HB4.out⟩

/-- Equal's answer: 0 only where a trace tells. -/
theorem equal_any (lo hi lo' hi' : Nat) (ve vf : Value) (e f : List Int) (w : World) (hx : SlI lo hi w ve e) (hy : SlI lo' hi' w vf f) (hh : hi ≤ w.heap.size) (hh' : hi' ≤ w.heap.size) (hm : e.length ≤ 1048576) (hm' : f.length ≤ 1048576) :
    Calls Tryz.prog 12 #[ve, vf] w (RetI fun i w' => (i = 0 → Apart e f) ∧ Below w.heap.size w w') := by
  have HX := Lib.hid hx
  have HY := Lib.hid hy
  clear hx hy
  go_enter Tryz.func12, Tryz.ntmps12
  go_wp2_with fail
  refine (pairsOf_any _ _ _ _ _ _ e f w HX.out HY.out hh hh' hm hm').mono ?_
  rintro e1 w1 ⟨vp, rfl, ⟨ss, xss, hp, h112, hro⟩, hb1⟩
  have hz1 := hb1.size
  have HP := Lib.hid (And.intro hp.sl hro)
  have HB1 := Lib.hid hb1
  clear hp hro hb1
  go_wp2_with fail
  refine (pairsOk_any _ _ _ _ _ _ _ _ _ e f xss w1 (HX.out.below HB1.out hh) (HY.out.below HB1.out hh') HP.out.1 (by omega) (by omega) (Nat.le_refl _) hm hm' HP.out.2).mono ?_
  rintro e2 w2 ⟨b, rfl, hb2⟩
  have hz2 := hb2.size
  have HB2 := Lib.hid (HB1.out.trans (hb2.mono hz1))
  clear hb2
  cases b
  · go_wp2_with fail
    refine (differ_any _ _ _ _ _ _ e f w2 (HX.out.below HB2.out hh) (HY.out.below HB2.out hh') (by omega) (by omega) hm hm').mono ?_
    rintro e3 w3 ⟨r, rfl, v, ok, rfl, hok, hb3⟩
    have HB3 := Lib.hid (HB2.out.trans (hb3.mono (by omega)))
    have HOK := Lib.hid hok
    clear hok hb3
    cases ok
    · go_wp2
      go_ret
      exact RetI.mk _ rfl ⟨fun h => absurd h (by decide), HB3.out⟩
    · go_wp2
      go_ret
      exact RetI.mk _ rfl ⟨fun _ => HOK.out (by first | rfl | trivial), HB3.out⟩
  · go_wp2
    go_ret
    exact RetI.mk _ rfl ⟨fun h => absurd h (by decide), HB2.out⟩
end Go.Proofs.YtplofpdjhelabaaGreatDoor
