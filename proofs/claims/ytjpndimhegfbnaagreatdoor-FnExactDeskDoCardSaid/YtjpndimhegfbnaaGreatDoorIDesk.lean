/-
  Texts of walks and plain lemmas for this seat; no condition.
-/
import Derived.Test.YtjpndimhegfbnaaGreatDoorMadeBy
import Derived.Test.YtjpndimhegfbnaaGreatDoorGI
import Derived.Test.YtjpndimhegfbnaaGreatDoorGK
namespace Go.Proofs.YtjpndimhegfbnaaGreatDoor
open Go.RowKit

def RetDB (P : Value → Value → Value → Value → Bool → World → Prop) (e : Ending) (w' : World) : Prop := ∃ a b c d ok, e = .returned (.tuple #[aggD a b c d, .bool ok]) ∧ P a b c d ok w'
theorem RetDB.mk {P : Value → Value → Value → Value → Bool → World → Prop} {e : Ending} {w' : World} (a b c d : Value) (ok : Bool) (h : e = .returned (.tuple #[aggD a b c d, .bool ok])) (hp : P a b c d ok w') : RetDB P e w' := ⟨a, b, c, d, ok, h, hp⟩
theorem madeV_len {D : Dsk} {A : Ac} {x : List Int} {ms : List Mv} (hx : proofV D.first D.made = some x) (h : madeV D A = some ms) : ms.length ≤ 1048576 := by
  have h1 : D.made.length ≤ 60 := by
    unfold proofV at hx
    split at hx
    · rename_i h2; simp at h2; exact h2.2
    · cases hx
  have h3 := simpBy_len D.now
  unfold madeV at h
  repeat' split at h
  all_goals first
    | (cases h; simp; omega)
    | (cases h; done)
theorem DeskOwn.open {lo hi : Nat} {w : World} {a b c d : Value} {D : Dsk} (h : DeskOwn lo hi w a b c d D) : ∃ x0 y0 x1 y1 x2 y2 x3 y3, a = .slice x0 D.first.length y0 ∧ b = .slice x1 D.goal.length y1 ∧ c = .slice x2 D.made.length y2 ∧ d = .slice x3 D.now.length y3 := by
  obtain ⟨_, _, _, _, _, _, _, _, p0, p1, p2, p3, _⟩ := h.ranges
  obtain ⟨x0, y0, e0, _⟩ := Own.open p0
  obtain ⟨x1, y1, e1, _⟩ := Own.open p1
  obtain ⟨x2, y2, e2, _⟩ := Own.open p2
  obtain ⟨x3, y3, e3, _⟩ := Own.open p3
  exact ⟨x0, y0, x1, y1, x2, y2, x3, y3, e0, e1, e2, e3⟩
/-- A fresh desk and a truth are handed back. -/
abbrev DoneR (w : World) (r : Dsk × Bool) : Ending → World → Prop := RetDB fun a b c d ok w' => DeskOwn w.heap.size w'.heap.size w' a b c d r.1 ∧ ok = r.2 ∧ Below w.heap.size w w'

set_option maxRecDepth 100000 in
set_option maxHeartbeats 3200000 in
theorem impl_DeskDo (lo hi : Nat) (a b c d : Value) (D : Dsk) (A : Ac) (w : World) (hE : EnvK w) (hx : DeskAt lo hi w a b c d D) (hh : hi ≤ w.heap.size) (hm : D.size ≤ 1048576) :
    Calls Tryz.prog 59 #[aggD a b c d, aggA A] w (DoneR w (deskDo D A)) := by
  have HM := Lib.hid hm
  unfold Dsk.size at hm
  obtain ⟨w0, hw0⟩ : ∃ w0, w0 = ((w.alloc (.cells #[a, b, c, d] 35)).alloc (.cells #[.int .i64 A.kind, .int .i64 A.step.which, .bool A.step.back, .int .i64 A.step.at_, .int .i64 A.count] 74)).alloc (.cells #[.slice none 0 0, .slice none 0 0, .slice none 0 0, .slice none 0 0] 35) := ⟨_, rfl⟩
  have hb0 : Below w.heap.size w w0 := by rw [hw0]; exact (((Below.refl _ _).alloc (Nat.le_refl _) _).alloc (by simp) _).alloc (by simp; omega) _
  have hs0 : w0.heap.size = w.heap.size + 3 := by rw [hw0]; simp
  have K1 : Hid (Blk w.heap.size (.cells #[a, b, c, d] 35) w0) := by
    rw [hw0]
    exact Lib.hid (((Blk.new w _).below ((Below.refl (w.alloc _).heap.size _).alloc (Nat.le_refl _) _) (by simp)).below ((Below.refl ((w.alloc _).alloc _).heap.size _).alloc (Nat.le_refl _) _) (by simp; omega))
  have K2 : Hid (Blk (w.heap.size + 1) (.cells #[.int .i64 A.kind, .int .i64 A.step.which, .bool A.step.back, .int .i64 A.step.at_, .int .i64 A.count] 74) w0) := by
    have h := (Blk.new (w.alloc (.cells #[a, b, c, d] 35)) (.cells #[.int .i64 A.kind, .int .i64 A.step.which, .bool A.step.back, .int .i64 A.step.at_, .int .i64 A.count] 74)).below ((Below.refl ((w.alloc (.cells #[a, b, c, d] 35)).alloc (.cells #[.int .i64 A.kind, .int .i64 A.step.which, .bool A.step.back, .int .i64 A.step.at_, .int .i64 A.count] 74)).heap.size _).alloc (o := (.cells #[.slice none 0 0, .slice none 0 0, .slice none 0 0, .slice none 0 0] 35)) (Nat.le_refl _)) (by simp)
    rw [alloc_size] at h
    rw [hw0]; exact Lib.hid h
  have K3 : Hid (Blk (w.heap.size + 1 + 1) (.cells #[.slice none 0 0, .slice none 0 0, .slice none 0 0, .slice none 0 0] 35) w0) := by
    have h := Blk.new ((w.alloc (.cells #[a, b, c, d] 35)).alloc (.cells #[.int .i64 A.kind, .int .i64 A.step.which, .bool A.step.back, .int .i64 A.step.at_, .int .i64 A.count] 74)) (.cells #[.slice none 0 0, .slice none 0 0, .slice none 0 0, .slice none 0 0] 35)
    rw [alloc_size, alloc_size] at h
    rw [hw0]; exact Lib.hid h
  have HX := Lib.hid (hx.below hb0 hh)
  have HB := Lib.hid hb0
  have HE := Lib.hid (hE.below hb0)
  have HW0 := Lib.hid hw0
  clear hx hE hb0 hw0
  obtain ⟨dv, hdv⟩ : ∃ dv, dv = deskV D := ⟨_, rfl⟩
  have HDV := Lib.hid hdv
  clear hdv
  have d0 := K1.out.cell 0
  have d1 := K1.out.cell 1
  have d2 := K1.out.cell 2
  have d3 := K1.out.cell 3
  have a0 := K2.out.cell 0
  have a1 := K2.out.cell 1
  have a2 := K2.out.cell 2
  have a3 := K2.out.cell 3
  have a4 := K2.out.cell 4
  go_enter Tryz.func59, Tryz.ntmps59
  go_wp2_with (rw [← HW0.out])
  refine (impl_DeskValid _ _ a b c d D w0 HE.out HX.out (by omega) HM.out).mono ?_
  rintro e1 w1 ⟨rfl, hb1⟩
  rw [← HDV.out]
  have hs1 := hb1.size
  replace HB := Lib.hid (HB.out.trans (hb1.mono (by omega)))
  replace K1 := Lib.hid (K1.out.below hb1 K1.out.lt)
  replace K2 := Lib.hid (K2.out.below hb1 K2.out.lt)
  replace K3 := Lib.hid (K3.out.below hb1 K3.out.lt)
  replace HX := Lib.hid (HX.out.below hb1 (by omega))
  replace HE := Lib.hid (HE.out.below hb1)
  clear hb1 d0 d1 d2 d3 a0 a1 a2 a3 a4
  have d0 := K1.out.cell 0
  have d1 := K1.out.cell 1
  have d2 := K1.out.cell 2
  have d3 := K1.out.cell 3
  have a0 := K2.out.cell 0
  have a1 := K2.out.cell 1
  have a2 := K2.out.cell 2
  have a3 := K2.out.cell 3
  have a4 := K2.out.cell 4
  cases dv
  · have HD := Lib.hid (show deskDo D A = (Dsk.none, false) by simp [deskDo, ← HDV.out])
    have f0 := K3.out.free 0
    have f1 := K3.out.free 1
    have f2 := K3.out.free 2
    have f3 := K3.out.free 3
    have c0 := K3.out.cell 0
    have c1 := K3.out.cell 1
    have c2 := K3.out.cell 2
    have c3 := K3.out.cell 3
    obtain ⟨wz, hwz⟩ : ∃ wz, wz = (((w1.setCell ⟨w.heap.size + 1 + 1, 0, none⟩ (.slice none 0 0)).setCell ⟨w.heap.size + 1 + 1, 1, none⟩ (.slice none 0 0)).setCell ⟨w.heap.size + 1 + 1, 2, none⟩ (.slice none 0 0)).setCell ⟨w.heap.size + 1 + 1, 3, none⟩ (.slice none 0 0) := ⟨_, rfl⟩
    have KZ := K3.out.set4 (.slice none 0 0) (.slice none 0 0) (.slice none 0 0) (.slice none 0 0)
    have hO := Outside.set4 (w.heap.size + 1 + 1) w1 (.slice none 0 0) (.slice none 0 0) (.slice none 0 0) (.slice none 0 0)
    rw [← hwz] at KZ hO
    have hsz := hO.size
    have HZ := Lib.hid (Below.outside HB.out hO (by omega) (by omega))
    have HOZ := Lib.hid hO
    have q0 := KZ.cell 0
    have q1 := KZ.cell 1
    have q2 := KZ.cell 2
    have q3 := KZ.cell 3
    clear KZ hO
    go_wp2
    simp only [← hwz]
    clear hwz
    refine bodyPost_ret (v := .tuple #[aggD (.slice none 0 0) (.slice none 0 0) (.slice none 0 0) (.slice none 0 0), .bool false]) (by simp [results, Tryz.results59, go_sem, q0, q1, q2, q3]) rfl (RetDB.mk _ _ _ _ _ rfl ⟨?_, ?_, HZ.out⟩)
    · rw [HD.out]
      exact DeskOwn.nils _ _ HZ.out.size _
    · rw [HD.out]
  · go_wp2_with fail
    obtain ⟨ma, mc, hce, hmc1, hmc2⟩ := HX.out.made.shape
    refine (madeBy_any _ _ a b c d D A w1 HE.out HX.out (by omega) HM.out).mono ?_
    rintro e2 w2 ⟨vm, ok1, rfl, hb2, hok1, ⟨lm, hlm⟩, hms⟩
    obtain ⟨xa, xc, rfl, _⟩ := Own.open hlm
    have hs2 := hb2.size
    replace HB := Lib.hid (HB.out.trans (hb2.mono (by omega)))
    replace K1 := Lib.hid (K1.out.below hb2 K1.out.lt)
    replace K2 := Lib.hid (K2.out.below hb2 K2.out.lt)
    replace K3 := Lib.hid (K3.out.below hb2 K3.out.lt)
    replace HX := Lib.hid (HX.out.below hb2 (by omega))
    replace HE := Lib.hid (HE.out.below hb2)
    clear hb2 d0 d1 d2 d3 a0 a1 a2 a3 a4
    have d0 := K1.out.cell 0
    have d1 := K1.out.cell 1
    have d2 := K1.out.cell 2
    have d3 := K1.out.cell 3
    have HOK1 := Lib.hid hok1
    have HMS := Lib.hid hms
    clear hok1 hms hce
    obtain ⟨r1, hr1⟩ : ∃ r1, r1 = madeV D A := ⟨_, rfl⟩
    rw [← hr1] at HOK1 HMS
    have HR1 := Lib.hid hr1
    clear hr1
    cases r1 with
    | none =>
      obtain rfl : ok1 = false := HOK1.out
      have HD := Lib.hid (show deskDo D A = (D, false) by simp [deskDo, ← HDV.out, ← HR1.out])
      go_wp2_with fail
      refine (desk_clone _ _ a b c d D w2 HX.out (by omega) HM.out).mono ?_
      rintro e3 w3 ⟨x0, x1, x2, x3, rfl, ho3, hb3⟩
      have hs3 := hb3.size
      replace HB := Lib.hid (HB.out.trans (hb3.mono (by omega)))
      replace K3 := Lib.hid (K3.out.below hb3 K3.out.lt)
      have HO3 := Lib.hid ho3
      obtain ⟨x0, y0, x1, y1, x2, y2, x3, y3, rfl, rfl, rfl, rfl⟩ := ho3.open
      clear hb3 ho3 d0 d1 d2 d3
      have f0 := K3.out.free 0
      have f1 := K3.out.free 1
      have f2 := K3.out.free 2
      have f3 := K3.out.free 3
      have c0 := K3.out.cell 0
      have c1 := K3.out.cell 1
      have c2 := K3.out.cell 2
      have c3 := K3.out.cell 3
      obtain ⟨wz, hwz⟩ : ∃ wz, wz = (((w3.setCell ⟨w.heap.size + 1 + 1, 0, none⟩ (.slice x0 D.first.length y0)).setCell ⟨w.heap.size + 1 + 1, 1, none⟩ (.slice x1 D.goal.length y1)).setCell ⟨w.heap.size + 1 + 1, 2, none⟩ (.slice x2 D.made.length y2)).setCell ⟨w.heap.size + 1 + 1, 3, none⟩ (.slice x3 D.now.length y3) := ⟨_, rfl⟩
      have KZ := K3.out.set4 (.slice x0 D.first.length y0) (.slice x1 D.goal.length y1) (.slice x2 D.made.length y2) (.slice x3 D.now.length y3)
      have hO := Outside.set4 (w.heap.size + 1 + 1) w3 (.slice x0 D.first.length y0) (.slice x1 D.goal.length y1) (.slice x2 D.made.length y2) (.slice x3 D.now.length y3)
      rw [← hwz] at KZ hO
      have hsz := hO.size
      have HZ := Lib.hid (Below.outside HB.out hO (by omega) (by omega))
      have HOZ := Lib.hid hO
      have q0 := KZ.cell 0
      have q1 := KZ.cell 1
      have q2 := KZ.cell 2
      have q3 := KZ.cell 3
      clear KZ hO
      go_wp2
      simp only [← hwz]
      clear hwz
      refine bodyPost_ret (v := .tuple #[aggD (.slice x0 D.first.length y0) (.slice x1 D.goal.length y1) (.slice x2 D.made.length y2) (.slice x3 D.now.length y3), .bool false]) (by simp [results, Tryz.results59, go_sem, q0, q1, q2, q3]) rfl (RetDB.mk _ _ _ _ _ rfl ⟨?_, ?_, HZ.out⟩)
      · rw [HD.out]
        exact (HO3.out.outside HOZ.out (.inr (by omega))).wide (by omega) (by omega)
      · rw [HD.out]
    | some ms =>
      obtain rfl : ok1 = true := HOK1.out
      have hm2 := HMS.out ms rfl
      obtain ⟨xb, yb, hxe, _⟩ := Own.open hm2
      have HM2 := Lib.hid hm2
      obtain ⟨x, hx⟩ : ∃ x, proofV D.first D.made = some x := by
        have h := HDV.out
        unfold deskV at h
        cases hp : proofV D.first D.made with
        | none => rw [hp] at h; cases h
        | some x => exact ⟨x, rfl⟩
      have hml : ms.length ≤ 1048576 := madeV_len hx HR1.out.symm
      clear hlm hm2 hxe hx
      go_wp2_with fail
      refine (impl_ProofRun _ _ _ _ a _ D.first ms w2 HE.out HX.out.first (by omega) (OwnM.sl HM2.out) hml).mono ?_
      rintro e3 w3 ⟨v3, ok3, rfl, hb3, hok3, ho3⟩
      obtain ⟨xn, yn, rfl, _⟩ := Own.open ho3
      have hs3 := hb3.size
      replace HB := Lib.hid (HB.out.trans (hb3.mono (by omega)))
      replace K1 := Lib.hid (K1.out.below hb3 K1.out.lt)
      replace K3 := Lib.hid (K3.out.below hb3 K3.out.lt)
      replace HX := Lib.hid (HX.out.below hb3 (by omega))
      replace HM2 := Lib.hid (OwnM.below HM2.out hb3 (Nat.le_refl _))
      have HO3 := Lib.hid ho3
      have HOK3 := Lib.hid hok3
      clear hb3 ho3 hok3 d0 d1 d2 d3
      have d0 := K1.out.cell 0
      have d1 := K1.out.cell 1
      have d2 := K1.out.cell 2
      have d3 := K1.out.cell 3
      obtain ⟨r2, hr2⟩ : ∃ r2, r2 = proofV D.first ms := ⟨_, rfl⟩
      rw [← hr2] at HOK3 HO3
      have HR2 := Lib.hid hr2
      clear hr2
      cases r2 with
      | none =>
        obtain rfl : ok3 = false := HOK3.out
        have HD := Lib.hid (show deskDo D A = (D, false) by simp [deskDo, ← HDV.out, ← HR1.out, ← HR2.out])
        go_wp2_with fail
        refine (desk_clone _ _ a b c d D w3 HX.out (by omega) HM.out).mono ?_
        rintro e4 w4 ⟨z0, z1, z2, z3, rfl, ho4, hb4⟩
        have hs4 := hb4.size
        replace HB := Lib.hid (HB.out.trans (hb4.mono (by omega)))
        replace K3 := Lib.hid (K3.out.below hb4 K3.out.lt)
        have HO4 := Lib.hid ho4
        obtain ⟨x0, y0, x1, y1, x2, y2, x3, y3, rfl, rfl, rfl, rfl⟩ := ho4.open
        clear hb4 ho4 d0 d1 d2 d3
        have f0 := K3.out.free 0
        have f1 := K3.out.free 1
        have f2 := K3.out.free 2
        have f3 := K3.out.free 3
        have c0 := K3.out.cell 0
        have c1 := K3.out.cell 1
        have c2 := K3.out.cell 2
        have c3 := K3.out.cell 3
        obtain ⟨wz, hwz⟩ : ∃ wz, wz = (((w4.setCell ⟨w.heap.size + 1 + 1, 0, none⟩ (.slice x0 D.first.length y0)).setCell ⟨w.heap.size + 1 + 1, 1, none⟩ (.slice x1 D.goal.length y1)).setCell ⟨w.heap.size + 1 + 1, 2, none⟩ (.slice x2 D.made.length y2)).setCell ⟨w.heap.size + 1 + 1, 3, none⟩ (.slice x3 D.now.length y3) := ⟨_, rfl⟩
        have KZ := K3.out.set4 (.slice x0 D.first.length y0) (.slice x1 D.goal.length y1) (.slice x2 D.made.length y2) (.slice x3 D.now.length y3)
        have hO := Outside.set4 (w.heap.size + 1 + 1) w4 (.slice x0 D.first.length y0) (.slice x1 D.goal.length y1) (.slice x2 D.made.length y2) (.slice x3 D.now.length y3)
        rw [← hwz] at KZ hO
        have hsz := hO.size
        have HZ := Lib.hid (Below.outside HB.out hO (by omega) (by omega))
        have HOZ := Lib.hid hO
        have q0 := KZ.cell 0
        have q1 := KZ.cell 1
        have q2 := KZ.cell 2
        have q3 := KZ.cell 3
        clear KZ hO
        go_wp2
        simp only [← hwz]
        clear hwz
        refine bodyPost_ret (v := .tuple #[aggD (.slice x0 D.first.length y0) (.slice x1 D.goal.length y1) (.slice x2 D.made.length y2) (.slice x3 D.now.length y3), .bool false]) (by simp [results, Tryz.results59, go_sem, q0, q1, q2, q3]) rfl (RetDB.mk _ _ _ _ _ rfl ⟨?_, ?_, HZ.out⟩)
        · rw [HD.out]
          exact (HO4.out.outside HOZ.out (.inr (by omega))).wide (by omega) (by omega)
        · rw [HD.out]
      | some x =>
        obtain rfl : ok3 = true := HOK3.out
        go_wp2_with fail
        refine (desk_clone _ _ a b c d D w3 HX.out (by omega) HM.out).mono ?_
        rintro e4 w4 ⟨z0, z1, z2, z3, rfl, ho4, hb4⟩
        have hs4 := hb4.size
        replace HB := Lib.hid (HB.out.trans (hb4.mono (by omega)))
        replace K3 := Lib.hid (K3.out.below hb4 K3.out.lt)
        have HO4 := Lib.hid ho4
        obtain ⟨x0, y0, x1, y1, x2, y2, x3, y3, rfl, rfl, rfl, rfl⟩ := ho4.open
        clear ho4 d0 d1 d2 d3
        have hb5 : Below w4.heap.size w4 (w4.alloc (.cells #[(.slice x0 D.first.length y0), (.slice x1 D.goal.length y1), (.slice xa lm.length xc), (.slice xn ((proofV D.first ms).getD []).length yn)] 35)) := (Below.refl _ _).alloc (Nat.le_refl _) _
        have hs5 : (w4.alloc (.cells #[(.slice x0 D.first.length y0), (.slice x1 D.goal.length y1), (.slice xa lm.length xc), (.slice xn ((proofV D.first ms).getD []).length yn)] 35)).heap.size = w4.heap.size + 1 := by simp
        replace HB := Lib.hid (HB.out.trans (hb5.mono (by omega)))
        replace K3 := Lib.hid (K3.out.below hb5 K3.out.lt)
        replace HM2 := Lib.hid ((OwnM.below HM2.out hb4 (by omega)).below hb5 (by omega))
        replace HO3 := Lib.hid ((OwnI.below HO3.out hb4 (by omega)).below hb5 (by omega))
        replace HO4 := Lib.hid (HO4.out.below hb5 (Nat.le_refl _))
        clear hb4 hb5
        have HD := Lib.hid (show deskDo D A = (⟨D.first, D.goal, ms, x⟩, true) by simp [deskDo, ← HDV.out, ← HR1.out, ← HR2.out])
        have f0 := K3.out.free 0
        have f1 := K3.out.free 1
        have f2 := K3.out.free 2
        have f3 := K3.out.free 3
        have c0 := K3.out.cell 0
        have c1 := K3.out.cell 1
        have c2 := K3.out.cell 2
        have c3 := K3.out.cell 3
        obtain ⟨wz, hwz⟩ : ∃ wz, wz = ((((w4.alloc (.cells #[(.slice x0 D.first.length y0), (.slice x1 D.goal.length y1), (.slice xa lm.length xc), (.slice xn ((proofV D.first ms).getD []).length yn)] 35)).setCell ⟨w.heap.size + 1 + 1, 0, none⟩ (.slice x0 D.first.length y0)).setCell ⟨w.heap.size + 1 + 1, 1, none⟩ (.slice x1 D.goal.length y1)).setCell ⟨w.heap.size + 1 + 1, 2, none⟩ (.slice xa lm.length xc)).setCell ⟨w.heap.size + 1 + 1, 3, none⟩ (.slice xn ((proofV D.first ms).getD []).length yn) := ⟨_, rfl⟩
        have KZ := K3.out.set4 (.slice x0 D.first.length y0) (.slice x1 D.goal.length y1) (.slice xa lm.length xc) (.slice xn ((proofV D.first ms).getD []).length yn)
        have hO := Outside.set4 (w.heap.size + 1 + 1) (w4.alloc (.cells #[(.slice x0 D.first.length y0), (.slice x1 D.goal.length y1), (.slice xa lm.length xc), (.slice xn ((proofV D.first ms).getD []).length yn)] 35)) (.slice x0 D.first.length y0) (.slice x1 D.goal.length y1) (.slice xa lm.length xc) (.slice xn ((proofV D.first ms).getD []).length yn)
        rw [← hwz] at KZ hO
        have hsz := hO.size
        have HZ := Lib.hid (Below.outside HB.out hO (by omega) (by omega))
        have HOZ := Lib.hid hO
        have q0 := KZ.cell 0
        have q1 := KZ.cell 1
        have q2 := KZ.cell 2
        have q3 := KZ.cell 3
        clear KZ hO
        go_wp2
        simp only [← hwz]
        clear hwz
        refine bodyPost_ret (v := .tuple #[aggD (.slice x0 D.first.length y0) (.slice x1 D.goal.length y1) (.slice xa lm.length xc) (.slice xn ((proofV D.first ms).getD []).length yn), .bool true]) (by simp [results, Tryz.results59, go_sem, q0, q1, q2, q3]) rfl (RetDB.mk _ _ _ _ _ rfl ⟨?_, ?_, HZ.out⟩)
        · rw [HD.out]
          obtain ⟨l1, h1, l2, h2, l3, h3, l4, h4, o1, o2, o3, o4, r1, r2, r3, r4, rest⟩ := HO4.out.outside HOZ.out (.inr (by omega))
          exact ⟨l1, h1, l2, h2, w1.heap.size, w2.heap.size, w2.heap.size, w3.heap.size, o1, o2, OwnM.outside HM2.out HOZ.out (.inr (by omega)), (by rw [← HR2.out]; exact OwnI.outside HO3.out HOZ.out (.inr (by omega))), by omega, by omega, by omega, by omega, rest.1, .inr (by omega), .inr (by omega), .inr (by omega), .inr (by omega), .inl (by omega)⟩
        · rw [HD.out]
end Go.Proofs.YtjpndimhegfbnaaGreatDoor
