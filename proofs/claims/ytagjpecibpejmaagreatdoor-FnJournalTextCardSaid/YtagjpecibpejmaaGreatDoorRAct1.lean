/-
  Texts of walks and plain lemmas for this seat; no condition.
-/
import Derived.Test.YtagjpecibpejmaaGreatDoorRAct
import Derived.Test.YtagjpecibpejmaaGreatDoorAct3
import Derived.Deep.RegionWith
namespace Go.Proofs.YtagjpecibpejmaaGreatDoor
open Go.RowKit

theorem CutPrefix_any (l p : List UInt8) (s sep : ByteArray) (hs : s = ⟨l.toArray⟩) (hp : sep = ⟨p.toArray⟩) (w : World) :
    Calls Tryz.prog 77 #[.string s, .string sep] w fun e w' => e = .returned (.tuple #[.string ⟨(Lib.trimPrefix l p).toArray⟩, .bool (Lib.hasPrefix l p)]) ∧ w = w' := by
  subst hs hp
  exact (Tryz.strings_CutPrefix ⟨l.toArray⟩ ⟨p.toArray⟩ w).mono fun e w' h => ⟨h.1, h.2.symm⟩

set_option maxRecDepth 100000 in
set_option maxHeartbeats 3200000 in
theorem impl_ReadAct (l : List UInt8) (s : ByteArray) (hs : s = ⟨l.toArray⟩) (w : World) (hE : Env w) (hl : l.length ≤ 2097152) :
    Calls Tryz.prog 36 #[.string s] w fun e w' => e = .returned (rdAc (readAc l)) ∧ Below w.heap.size w w' := by
  subst hs
  obtain ⟨w0, hw0⟩ : ∃ w0, w0 = w.alloc (.cells #[.int .i64 0, .int .i64 0, .bool false, .int .i64 0, .int .i64 0] 51) := ⟨_, rfl⟩
  have HB : Hid (Below w.heap.size w w0) := by rw [hw0]; exact Lib.hid ((Below.refl _ _).alloc (Nat.le_refl _) _)
  have K : Hid (Blk w.heap.size (.cells #[.int .i64 0, .int .i64 0, .bool false, .int .i64 0, .int .i64 0] 51) w0) := by rw [hw0]; exact Lib.hid (Blk.new w _)
  have HE := Lib.hid (hE.below HB.out)
  clear hE
  go_enter Tryz.func36, Tryz.ntmps36
  go_wp2_with fail
  simp only [← hw0]
  clear hw0
  refine (impl_ReadMove l _ rfl _ HE.out hl).mono ?_
  rintro e w1 ⟨rfl, hb⟩
  replace HE := Lib.hid (HE.out.below hb)
  replace K := Lib.hid (K.out.below hb K.out.lt)
  replace HB := Lib.hid (HB.out.trans (hb.mono HB.out.size))
  clear hb
  cases hr : readMv l with
  | some m =>
    rw [rdMv_some]
    have HR := Lib.hid (ra_move hr)
    clear hr HE
    obtain ⟨w2, hw2⟩ : ∃ w2, w2 = w1.alloc (.cells #[.int .i64 m.which, .bool m.back, .int .i64 m.at_] 43) := ⟨_, rfl⟩
    have hb : Below w1.heap.size w1 w2 := by rw [hw2]; exact (Below.refl _ _).alloc (Nat.le_refl _) _
    replace K : Hid (Blk w.heap.size (.cells #[.int .i64 0, .int .i64 0, .bool false, .int .i64 0, .int .i64 0] 51) (w1.alloc (.cells #[.int .i64 m.which, .bool m.back, .int .i64 m.at_] 43))) := by rw [← hw2]; exact Lib.hid (K.out.below hb K.out.lt)
    replace HB : Hid (Below w.heap.size w (w1.alloc (.cells #[.int .i64 m.which, .bool m.back, .int .i64 m.at_] 43))) := by rw [← hw2]; exact Lib.hid (HB.out.trans (hb.mono HB.out.size))
    clear hb hw2
    obtain ⟨wz, hwz⟩ : ∃ wz, wz = ((((((w1.alloc (.cells #[.int .i64 m.which, .bool m.back, .int .i64 m.at_] 43)).setCell ⟨w.heap.size, 0, none⟩ (.int .i64 0)).setCell ⟨w.heap.size, 1, none⟩ (.int .i64 m.which)).setCell ⟨w.heap.size, 2, none⟩ (.bool m.back)).setCell ⟨w.heap.size, 3, none⟩ (.int .i64 m.at_)).setCell ⟨w.heap.size, 4, none⟩ (.int .i64 0)) := ⟨_, rfl⟩
    have KZ := K.out.set5 (.int .i64 0) (.int .i64 m.which) (.bool m.back) (.int .i64 m.at_) (.int .i64 0)
    have HZ := Lib.hid (Below.set5 HB.out (Nat.le_refl _) (.int .i64 0) (.int .i64 m.which) (.bool m.back) (.int .i64 m.at_) (.int .i64 0))
    rw [← hwz] at KZ HZ
    have q0 := KZ.cell 0
    have q1 := KZ.cell 1
    have q2 := KZ.cell 2
    have q3 := KZ.cell 3
    have q4 := KZ.cell 4
    clear KZ
    have c0 := K.out.cell 0
    have f0 := K.out.free 0
    have c1 := K.out.cell 1
    have f1 := K.out.free 1
    have c2 := K.out.cell 2
    have f2 := K.out.free 2
    have c3 := K.out.cell 3
    have f3 := K.out.free 3
    have c4 := K.out.cell 4
    have f4 := K.out.free 4
    go_wp2
    simp only [← hwz]
    clear hwz
    rw [HR.out]
    refine bodyPost_ret (v := rdAc (some ⟨0, m, 0⟩)) (by simp [results, Tryz.results36, go_sem, q0, q1, q2, q3, q4, rdAc]) rfl ⟨rfl, HZ.out⟩
  | none =>
    rw [rdMv_none]
    have HR1 := Lib.hid hr
    clear hr
    cases hsm : l == simpleT with
    | true =>
      have HR := Lib.hid (ra_simple (l := l) (by simpa using hsm))
      have hsm' : (l == [115, 105, 109, 112, 108, 101]) = true := hsm
      clear hsm HE
      have hb : Below w1.heap.size w1 (w1.alloc (.cells #[.int .i64 0, .bool false, .int .i64 0] 43)) := (Below.refl _ _).alloc (Nat.le_refl _) _
      replace K := Lib.hid (K.out.below hb K.out.lt)
      replace HB := Lib.hid (HB.out.trans (hb.mono HB.out.size))
      clear hb
      obtain ⟨wz, hwz⟩ : ∃ wz, wz = ((((((w1.alloc (.cells #[.int .i64 0, .bool false, .int .i64 0] 43)).setCell ⟨w.heap.size, 0, none⟩ (.int .i64 2)).setCell ⟨w.heap.size, 1, none⟩ (.int .i64 0)).setCell ⟨w.heap.size, 2, none⟩ (.bool false)).setCell ⟨w.heap.size, 3, none⟩ (.int .i64 0)).setCell ⟨w.heap.size, 4, none⟩ (.int .i64 0)) := ⟨_, rfl⟩
      have KZ := K.out.set5 (.int .i64 2) (.int .i64 0) (.bool false) (.int .i64 0) (.int .i64 0)
      have HZ := Lib.hid (Below.set5 HB.out (Nat.le_refl _) (.int .i64 2) (.int .i64 0) (.bool false) (.int .i64 0) (.int .i64 0))
      rw [← hwz] at KZ HZ
      have q0 := KZ.cell 0
      have q1 := KZ.cell 1
      have q2 := KZ.cell 2
      have q3 := KZ.cell 3
      have q4 := KZ.cell 4
      clear KZ
      have c0 := K.out.cell 0
      have f0 := K.out.free 0
      have c1 := K.out.cell 1
      have f1 := K.out.free 1
      have c2 := K.out.cell 2
      have f2 := K.out.free 2
      have c3 := K.out.cell 3
      have f3 := K.out.free 3
      have c4 := K.out.cell 4
      have f4 := K.out.free 4
      go_wp2
      simp only [← hwz]
      clear hwz
      rw [HR.out]
      refine bodyPost_ret (v := rdAc (some ⟨2, zeroMv, 0⟩)) (by simp [results, Tryz.results36, go_sem, q0, q1, q2, q3, q4, rdAc, zeroMv]) rfl ⟨rfl, HZ.out⟩
    | false =>
      have HSM := Lib.hid hsm
      have hsm' : (l == [115, 105, 109, 112, 108, 101]) = false := hsm
      clear hsm
      go_wp2_with fail
      obtain ⟨w2, hw2⟩ : ∃ w2, w2 = w1.alloc (.cells #[.int .i64 0, .bool false, .int .i64 0] 43) := ⟨_, rfl⟩
      rw [← hw2]
      have hb : Below w1.heap.size w1 w2 := by rw [hw2]; exact (Below.refl _ _).alloc (Nat.le_refl _) _
      replace HE := Lib.hid (HE.out.below hb)
      replace K := Lib.hid (K.out.below hb K.out.lt)
      replace HB := Lib.hid (HB.out.trans (hb.mono HB.out.size))
      clear hb hw2
      refine (CutPrefix_any l backT _ _ rfl rfl _).mono ?_
      rintro e w' ⟨rfl, rfl⟩
      cases hp : Lib.hasPrefix l backT with
      | false =>
        have HR := Lib.hid (ra_none HR1.out HSM.out (db_no1 hp))
        clear hp
        obtain ⟨wz, hwz⟩ : ∃ wz, wz = (((((w2.setCell ⟨w.heap.size, 0, none⟩ (.int .i64 0)).setCell ⟨w.heap.size, 1, none⟩ (.int .i64 0)).setCell ⟨w.heap.size, 2, none⟩ (.bool false)).setCell ⟨w.heap.size, 3, none⟩ (.int .i64 0)).setCell ⟨w.heap.size, 4, none⟩ (.int .i64 0)) := ⟨_, rfl⟩
        have KZ := K.out.set5 (.int .i64 0) (.int .i64 0) (.bool false) (.int .i64 0) (.int .i64 0)
        have HZ := Lib.hid (Below.set5 HB.out (Nat.le_refl _) (.int .i64 0) (.int .i64 0) (.bool false) (.int .i64 0) (.int .i64 0))
        rw [← hwz] at KZ HZ
        have q0 := KZ.cell 0
        have q1 := KZ.cell 1
        have q2 := KZ.cell 2
        have q3 := KZ.cell 3
        have q4 := KZ.cell 4
        clear KZ
        have c0 := K.out.cell 0
        have f0 := K.out.free 0
        have c1 := K.out.cell 1
        have f1 := K.out.free 1
        have c2 := K.out.cell 2
        have f2 := K.out.free 2
        have c3 := K.out.cell 3
        have f3 := K.out.free 3
        have c4 := K.out.cell 4
        have f4 := K.out.free 4
        go_wp2
        simp only [← hwz]
        clear hwz
        rw [HR.out]
        refine bodyPost_ret (v := rdAc none) (by simp [results, Tryz.results36, go_sem, q0, q1, q2, q3, q4, rdAc_none]) rfl ⟨rfl, HZ.out⟩
      | true =>
        have HNE : Hid (l ≠ []) := Lib.hid (by intro h; rw [h] at hp; cases hp)
        have hpl : (Lib.trimPrefix l backT).length ≤ l.length := by unfold Lib.trimPrefix; rw [if_pos hp]; simp
        obtain ⟨p, hp1⟩ : ∃ p, p = Lib.trimPrefix l backT := ⟨_, rfl⟩
        rw [← hp1] at hpl ⊢
        have HP := Lib.hid hp1
        clear hp1 hp
        cases ha : atoiV p with
        | none =>
          have HR := Lib.hid (ra_none HR1.out HSM.out (db_no2 (by rw [← HP.out]; exact ha)))
          go_wp2_with fail
          refine (Atoi_bad p _ rfl _ HE.out (by omega) ha).mono ?_
          rintro e w3 ⟨n, t, q, rfl, hb⟩
          replace K := Lib.hid (K.out.below hb K.out.lt)
          replace HB := Lib.hid (HB.out.trans (hb.mono HB.out.size))
          clear hb ha HE
          have hb : Below w3.heap.size w3 (w3.alloc (.cells #[.int .i64 1, .int .i64 0, .bool false, .int .i64 0, .int .i64 n] 51)) := (Below.refl _ _).alloc (Nat.le_refl _) _
          replace K := Lib.hid (K.out.below hb K.out.lt)
          replace HB := Lib.hid (HB.out.trans (hb.mono HB.out.size))
          clear hb
          obtain ⟨wz, hwz⟩ : ∃ wz, wz = ((((((w3.alloc (.cells #[.int .i64 1, .int .i64 0, .bool false, .int .i64 0, .int .i64 n] 51)).setCell ⟨w.heap.size, 0, none⟩ (.int .i64 0)).setCell ⟨w.heap.size, 1, none⟩ (.int .i64 0)).setCell ⟨w.heap.size, 2, none⟩ (.bool false)).setCell ⟨w.heap.size, 3, none⟩ (.int .i64 0)).setCell ⟨w.heap.size, 4, none⟩ (.int .i64 0)) := ⟨_, rfl⟩
          have KZ := K.out.set5 (.int .i64 0) (.int .i64 0) (.bool false) (.int .i64 0) (.int .i64 0)
          have HZ := Lib.hid (Below.set5 HB.out (Nat.le_refl _) (.int .i64 0) (.int .i64 0) (.bool false) (.int .i64 0) (.int .i64 0))
          rw [← hwz] at KZ HZ
          have q0 := KZ.cell 0
          have q1 := KZ.cell 1
          have q2 := KZ.cell 2
          have q3 := KZ.cell 3
          have q4 := KZ.cell 4
          clear KZ
          have c0 := K.out.cell 0
          have f0 := K.out.free 0
          have c1 := K.out.cell 1
          have f1 := K.out.free 1
          have c2 := K.out.cell 2
          have f2 := K.out.free 2
          have c3 := K.out.cell 3
          have f3 := K.out.free 3
          have c4 := K.out.cell 4
          have f4 := K.out.free 4
          go_wp2
          simp only [← hwz]
          clear hwz
          rw [HR.out]
          refine bodyPost_ret (v := rdAc none) (by simp [results, Tryz.results36, go_sem, q0, q1, q2, q3, q4, rdAc_none]) rfl ⟨rfl, HZ.out⟩
        | some n =>
          go_wp2_with fail
          refine (Atoi_ok p _ rfl n _ (by omega) ha).mono ?_
          rintro e w3 ⟨rfl, hb⟩
          have HA := Lib.hid ha
          replace K := Lib.hid (K.out.below hb K.out.lt)
          replace HB := Lib.hid (HB.out.trans (hb.mono HB.out.size))
          clear hb ha HE
          go_wp2_with fail
          obtain ⟨w4, hw4⟩ : ∃ w4, w4 = w3.alloc (.cells #[.int .i64 1, .int .i64 0, .bool false, .int .i64 0, .int .i64 n] 51) := ⟨_, rfl⟩
          rw [← hw4]
          have hb : Below w3.heap.size w3 w4 := by rw [hw4]; exact (Below.refl _ _).alloc (Nat.le_refl _) _
          have K4 : Hid (Blk w3.heap.size (.cells #[.int .i64 1, .int .i64 0, .bool false, .int .i64 0, .int .i64 n] 51) w4) := by rw [hw4]; exact Lib.hid (Blk.new _ _)
          replace K := Lib.hid (K.out.below hb K.out.lt)
          replace HB := Lib.hid (HB.out.trans (hb.mono HB.out.size))
          clear hb hw4
          refine (impl_ActText ⟨1, zeroMv, n⟩ _).mono ?_
          rintro e w5 ⟨rfl, hb⟩
          replace K4 := Lib.hid (K4.out.below hb K4.out.lt)
          replace K := Lib.hid (K.out.below hb K.out.lt)
          replace HB := Lib.hid (HB.out.trans (hb.mono HB.out.size))
          clear hb
          have d0 := K4.out.cell 0
          have d1 := K4.out.cell 1
          have d2 := K4.out.cell 2
          have d3 := K4.out.cell 3
          have d4 := K4.out.cell 4
          cases hq : (actText ⟨1, zeroMv, n⟩ == l)
          · have HR := Lib.hid (ra_none HR1.out HSM.out (db_no3 (n := n) (by rw [← HP.out]; exact HA.out) (by simpa using hq)))
            obtain ⟨wz, hwz⟩ : ∃ wz, wz = (((((w5.setCell ⟨w.heap.size, 0, none⟩ (.int .i64 0)).setCell ⟨w.heap.size, 1, none⟩ (.int .i64 0)).setCell ⟨w.heap.size, 2, none⟩ (.bool false)).setCell ⟨w.heap.size, 3, none⟩ (.int .i64 0)).setCell ⟨w.heap.size, 4, none⟩ (.int .i64 0)) := ⟨_, rfl⟩
            have KZ := K.out.set5 (.int .i64 0) (.int .i64 0) (.bool false) (.int .i64 0) (.int .i64 0)
            have HZ := Lib.hid (Below.set5 HB.out (Nat.le_refl _) (.int .i64 0) (.int .i64 0) (.bool false) (.int .i64 0) (.int .i64 0))
            rw [← hwz] at KZ HZ
            have q0 := KZ.cell 0
            have q1 := KZ.cell 1
            have q2 := KZ.cell 2
            have q3 := KZ.cell 3
            have q4 := KZ.cell 4
            clear KZ
            have c0 := K.out.cell 0
            have f0 := K.out.free 0
            have c1 := K.out.cell 1
            have f1 := K.out.free 1
            have c2 := K.out.cell 2
            have f2 := K.out.free 2
            have c3 := K.out.cell 3
            have f3 := K.out.free 3
            have c4 := K.out.cell 4
            have f4 := K.out.free 4
            go_wp2
            simp only [← hwz]
            clear hwz
            rw [HR.out]
            refine bodyPost_ret (v := rdAc none) (by simp [results, Tryz.results36, go_sem, q0, q1, q2, q3, q4, rdAc_none]) rfl ⟨rfl, HZ.out⟩
          · have HR : Hid (readAc l = some ⟨1, zeroMv, n⟩) := by
              obtain ⟨g1, g2, g3⟩ := db_yes (n := n) (l := l) (by simpa using hq) HNE.out
              have := ra_back g3
              rw [show ((n.toNat : Nat) : Int) = n by omega] at this
              exact Lib.hid this
            obtain ⟨wz, hwz⟩ : ∃ wz, wz = (((((w5.setCell ⟨w.heap.size, 0, none⟩ (.int .i64 1)).setCell ⟨w.heap.size, 1, none⟩ (.int .i64 0)).setCell ⟨w.heap.size, 2, none⟩ (.bool false)).setCell ⟨w.heap.size, 3, none⟩ (.int .i64 0)).setCell ⟨w.heap.size, 4, none⟩ (.int .i64 n)) := ⟨_, rfl⟩
            have KZ := K.out.set5 (.int .i64 1) (.int .i64 0) (.bool false) (.int .i64 0) (.int .i64 n)
            have HZ := Lib.hid (Below.set5 HB.out (Nat.le_refl _) (.int .i64 1) (.int .i64 0) (.bool false) (.int .i64 0) (.int .i64 n))
            rw [← hwz] at KZ HZ
            have q0 := KZ.cell 0
            have q1 := KZ.cell 1
            have q2 := KZ.cell 2
            have q3 := KZ.cell 3
            have q4 := KZ.cell 4
            clear KZ
            have c0 := K.out.cell 0
            have f0 := K.out.free 0
            have c1 := K.out.cell 1
            have f1 := K.out.free 1
            have c2 := K.out.cell 2
            have f2 := K.out.free 2
            have c3 := K.out.cell 3
            have f3 := K.out.free 3
            have c4 := K.out.cell 4
            have f4 := K.out.free 4
            go_wp2
            simp only [← hwz]
            clear hwz
            rw [HR.out]
            refine bodyPost_ret (v := rdAc (some ⟨1, zeroMv, n⟩)) (by simp [results, Tryz.results36, go_sem, q0, q1, q2, q3, q4, rdAc, zeroMv]) rfl ⟨rfl, HZ.out⟩
end Go.Proofs.YtagjpecibpejmaaGreatDoor
