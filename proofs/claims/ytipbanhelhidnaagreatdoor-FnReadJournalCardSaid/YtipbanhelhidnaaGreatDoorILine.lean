/-
  Texts of walks and plain lemmas for this seat; no condition.
-/
import Derived.Test.YtipbanhelhidnaaGreatDoorGO
import Derived.Test.YtipbanhelhidnaaGreatDoorGW
import Derived.Test.YtipbanhelhidnaaGreatDoorEnv
import Derived.Deep.RegionHeldLaw
import Derived.Deep.RegionHeld3
import Derived.Deep.DeepCutAuto
import Derived.Deep.DrawnRows
namespace Go.Proofs.YtipbanhelhidnaaGreatDoor
open Go.RowKit
set_option linter.unusedVariables false

def RetDS (P : Value → Value → Value → Value → ByteArray → World → Prop) (e : Ending) (w' : World) : Prop := ∃ a b c d s, e = .returned (.tuple #[aggD a b c d, .string s]) ∧ P a b c d s w'
/-- The answer to an act. -/
def okS (b : Bool) : ByteArray := if b then ⟨#[111, 107]⟩ else ⟨#[110, 111]⟩
theorem rdAc_form {o : Option Ac} {a : Ac} (h : o = some a) : rdAc o = .tuple #[aggA a, .bool true] := by subst h; rfl

set_option maxRecDepth 100000 in
set_option maxHeartbeats 3200000 in
/-- DeskLine of the text of an act, at a desk that counts: DeskDo. -/
theorem impl_DeskLine_act (lo hi : Nat) (a b c d : Value) (D : Dsk) (A : Ac) (l : List UInt8) (s : ByteArray) (hs : s = ⟨l.toArray⟩) (w : World) (hE : EnvK w) (hN : Env w) (hx : DeskAt lo hi w a b c d D) (hh : hi ≤ w.heap.size) (hm : D.size ≤ 1048576) (hv : deskV D = true) (hl : l.length ≤ 2097152) (hr : readAc l = some A) :
    Calls Tryz.prog 10 #[aggD a b c d, .string s] w (RetDS fun a' b' c' d' s' w' => s' = okS (deskDo D A).2 ∧ DeskOwn w.heap.size w'.heap.size w' a' b' c' d' (deskDo D A).1 ∧ Below w.heap.size w w') := by
  subst hs
  have HM := Lib.hid hm
  obtain ⟨w0, hw0⟩ : ∃ w0, w0 = (w.alloc (.cells #[a, b, c, d] 31)).alloc (.cells #[.slice none 0 0, .slice none 0 0, .slice none 0 0, .slice none 0 0] 31) := ⟨_, rfl⟩
  have hb0 : Below w.heap.size w w0 := by rw [hw0]; exact ((Below.refl _ _).alloc (Nat.le_refl _) _).alloc (by simp) _
  have hs0 : w0.heap.size = w.heap.size + 2 := by rw [hw0]; simp
  have K1 : Hid (Blk w.heap.size (.cells #[a, b, c, d] 31) w0) := by
    rw [hw0]
    exact Lib.hid ((Blk.new w _).below ((Below.refl (w.alloc _).heap.size _).alloc (Nat.le_refl _) _) (by simp))
  have K3 : Hid (Blk (w.heap.size + 1) (.cells #[.slice none 0 0, .slice none 0 0, .slice none 0 0, .slice none 0 0] 31) w0) := by
    have h := Blk.new (w.alloc (.cells #[a, b, c, d] 31)) (.cells #[.slice none 0 0, .slice none 0 0, .slice none 0 0, .slice none 0 0] 31)
    rw [alloc_size] at h
    rw [hw0]; exact Lib.hid h
  have HX := Lib.hid (hx.below hb0 hh)
  have HB := Lib.hid hb0
  have HE := Lib.hid (hE.below hb0)
  have HN := Lib.hid (hN.below hb0)
  have HW0 := Lib.hid hw0
  have HV := Lib.hid hv
  have HRA := Lib.hid hr
  clear hx hE hN hb0 hw0 hv hr hm
  have d0 := K1.out.cell 0
  have d1 := K1.out.cell 1
  have d2 := K1.out.cell 2
  have d3 := K1.out.cell 3
  go_enter Tryz.func10, Tryz.ntmps10
  go_wp2_with (rw [← HW0.out])
  refine (impl_DeskValid _ _ a b c d D w0 HE.out HX.out (by omega) HM.out).mono ?_
  rintro e1 w1 ⟨rfl, hb1⟩
  rw [HV.out]
  have hs1 := hb1.size
  replace HB := Lib.hid (HB.out.trans (hb1.mono (by omega)))
  replace K1 := Lib.hid (K1.out.below hb1 K1.out.lt)
  replace K3 := Lib.hid (K3.out.below hb1 K3.out.lt)
  replace HX := Lib.hid (HX.out.below hb1 (by omega))
  replace HE := Lib.hid (HE.out.below hb1)
  replace HN := Lib.hid (HN.out.below hb1)
  clear hb1 d0 d1 d2 d3
  go_wp2_with fail
  refine (impl_ReadAct l _ rfl w1 HN.out hl).mono ?_
  rintro e2 w2 ⟨rfl, hb2⟩
  rw [rdAc_form HRA.out]
  unfold aggA
  have hs2 := hb2.size
  replace HB := Lib.hid (HB.out.trans (hb2.mono (by omega)))
  replace K1 := Lib.hid (K1.out.below hb2 K1.out.lt)
  replace K3 := Lib.hid (K3.out.below hb2 K3.out.lt)
  replace HX := Lib.hid (HX.out.below hb2 (by omega))
  replace HE := Lib.hid (HE.out.below hb2)
  clear hb2 HN
  obtain ⟨w3, hw3⟩ : ∃ w3, w3 = w2.alloc (.cells #[.int .i64 A.kind, .int .i64 A.step.which, .bool A.step.back, .int .i64 A.step.at_, .int .i64 A.count] 41) := ⟨_, rfl⟩
  obtain ⟨hb3, KA_, hs3⟩ := box_facts2 hw3
  have KA := Lib.hid KA_
  replace HB := Lib.hid (HB.out.trans (hb3.mono (by omega)))
  replace K1 := Lib.hid (K1.out.below hb3 K1.out.lt)
  replace K3 := Lib.hid (K3.out.below hb3 K3.out.lt)
  replace HX := Lib.hid (HX.out.below hb3 (by omega))
  replace HE := Lib.hid (HE.out.below hb3)
  have d0 := K1.out.cell 0
  have d1 := K1.out.cell 1
  have d2 := K1.out.cell 2
  have d3 := K1.out.cell 3
  have a0 := KA.out.cell 0
  have a1 := KA.out.cell 1
  have a2 := KA.out.cell 2
  have a3 := KA.out.cell 3
  have a4 := KA.out.cell 4
  rw [hw3] at d0 d1 d2 d3 a0 a1 a2 a3 a4
  clear hb3 KA_
  go_wp2_with fail
  simp only [← hw3]
  clear hw3 d0 d1 d2 d3 a0 a1 a2 a3 a4
  refine (impl_DeskDo _ _ a b c d D A w3 HE.out HX.out (by omega) HM.out).mono ?_
  rintro e4 w4 ⟨x0, x1, x2, x3, ok, rfl, o_, hok, hb4⟩
  obtain ⟨R, t, hR⟩ : ∃ R t, deskDo D A = (R, t) := ⟨_, _, rfl⟩
  have HR := Lib.hid hR
  rw [hR] at o_ hok
  obtain rfl : ok = t := hok
  clear hR
  obtain ⟨z0, z1, z2, z3, z4, z5, z6, z7, rfl, rfl, rfl, rfl⟩ := o_.open
  have hs4 := hb4.size
  replace HB := Lib.hid (HB.out.trans (hb4.mono (by omega)))
  replace K3 := Lib.hid (K3.out.below hb4 K3.out.lt)
  have O4 := Lib.hid (o_.wide (lo' := w.heap.size) (by omega) (Nat.le_refl _))
  have O4' := Lib.hid o_
  clear hb4 o_ K1 HX HE KA
  obtain ⟨w5, hw5⟩ : ∃ w5, w5 = w4.alloc (.cells #[(.slice z0 R.first.length z1), (.slice z2 R.goal.length z3), (.slice z4 R.made.length z5), (.slice z6 R.now.length z7)] 31) := ⟨_, rfl⟩
  obtain ⟨hb5, K5, hs5⟩ := box_facts2 hw5
  replace HB := Lib.hid (HB.out.trans (hb5.mono (by omega)))
  replace K3 := Lib.hid (K3.out.below hb5 K3.out.lt)
  replace O4' := Lib.hid (O4'.out.below hb5 (Nat.le_refl _))
  have k0 := K5.cell 0
  have k1 := K5.cell 1
  have k2 := K5.cell 2
  have k3 := K5.cell 3
  have c0 := K3.out.cell 0
  have c1 := K3.out.cell 1
  have c2 := K3.out.cell 2
  have c3 := K3.out.cell 3
  have f0 := K3.out.free 0
  have f1 := K3.out.free 1
  have f2 := K3.out.free 2
  have f3 := K3.out.free 3
  have HW5 := Lib.hid hw5
  obtain ⟨wz, hwz⟩ : ∃ wz, wz = (((w5.setCell ⟨w.heap.size + 1, 0, none⟩ (.slice z0 R.first.length z1)).setCell ⟨w.heap.size + 1, 1, none⟩ (.slice z2 R.goal.length z3)).setCell ⟨w.heap.size + 1, 2, none⟩ (.slice z4 R.made.length z5)).setCell ⟨w.heap.size + 1, 3, none⟩ (.slice z6 R.now.length z7) := ⟨_, rfl⟩
  have KZ := K3.out.set4 (.slice z0 R.first.length z1) (.slice z2 R.goal.length z3) (.slice z4 R.made.length z5) (.slice z6 R.now.length z7)
  have hO := Outside.set4 (w.heap.size + 1) w5 (.slice z0 R.first.length z1) (.slice z2 R.goal.length z3) (.slice z4 R.made.length z5) (.slice z6 R.now.length z7)
  rw [← hwz] at KZ hO
  have hsz := hO.size
  have HZ := Lib.hid (Below.outside HB.out hO (by omega) (by omega))
  have OZ := Lib.hid (O4'.out.outside hO (.inr (by omega)))
  have q0 := KZ.cell 0
  have q1 := KZ.cell 1
  have q2 := KZ.cell 2
  have q3 := KZ.cell 3
  rw [hw5] at k0 k1 k2 k3 c0 c1 c2 c3 f0 f1 f2 f3 hwz
  clear KZ hO hb5 K5 hw5
  cases ok
  all_goals (
    go_wp2_with fail
    simp only [← hwz])
  · refine bodyPost_ret (v := .tuple #[aggD (.slice z0 R.first.length z1) (.slice z2 R.goal.length z3) (.slice z4 R.made.length z5) (.slice z6 R.now.length z7), .string ⟨#[110, 111]⟩]) (by simp [results, Tryz.results10, go_sem, q0, q1, q2, q3]) rfl ⟨_, _, _, _, _, rfl, ?_, ?_, HZ.out⟩
    · rw [HR.out]; rfl
    · rw [HR.out]; exact OZ.out.wide (by omega) (by omega)
  · refine bodyPost_ret (v := .tuple #[aggD (.slice z0 R.first.length z1) (.slice z2 R.goal.length z3) (.slice z4 R.made.length z5) (.slice z6 R.now.length z7), .string ⟨#[111, 107]⟩]) (by simp [results, Tryz.results10, go_sem, q0, q1, q2, q3]) rfl ⟨_, _, _, _, _, rfl, ?_, ?_, HZ.out⟩
    · rw [HR.out]; rfl
    · rw [HR.out]; exact OZ.out.wide (by omega) (by omega)
end Go.Proofs.YtipbanhelhidnaaGreatDoor
