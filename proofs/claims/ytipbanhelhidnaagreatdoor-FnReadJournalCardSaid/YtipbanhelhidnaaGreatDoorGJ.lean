/-
  Texts of walks and plain lemmas for this seat; no condition.
-/
import Derived.Test.YtipbanhelhidnaaGreatDoorGI
import Derived.Test.YtipbanhelhidnaaGreatDoorGG
namespace Go.Proofs.YtipbanhelhidnaaGreatDoor
open Go.RowKit
section

def easyAt (a : Nat) : List Mv := easyN.map fun n => ⟨(n : Nat), false, (a : Nat)⟩
def restE (e : List Int) (a : Nat) : List Mv := ((List.range e.length).drop a).flatMap easyAt
theorem restE_zero (e : List Int) : restE e 0 = easyMv e := rfl
theorem restE_end (e : List Int) (a : Nat) (h : e.length ≤ a) : restE e a = [] := by unfold restE; rw [List.drop_of_length_le (by simpa using h)]; rfl
theorem restE_next (e : List Int) (a : Nat) (h : a < e.length) : restE e a = easyAt a ++ restE e (a + 1) := by
  unfold restE
  rw [List.drop_eq_getElem_cons (by simpa using h)]
  simp
theorem easyN_len : easyN.length = 11 := rfl
theorem easyAt_len (a : Nat) : (easyAt a).length = 11 := rfl
theorem easyAt_drop (a j : Nat) (h : j < 11) : (easyAt a).drop j = ⟨((easyN[j]'h : Nat) : Int), false, (a : Nat)⟩ :: (easyAt a).drop (j + 1) := by
  rw [List.drop_eq_getElem_cons (by rw [easyAt_len]; exact h)]
  simp [easyAt]
  rfl
def easyVs : Array Value := #[.int .i64 2, .int .i64 3, .int .i64 5, .int .i64 6, .int .i64 7, .int .i64 8, .int .i64 15, .int .i64 16, .int .i64 17, .int .i64 18, .int .i64 19]
theorem easyVs_get (j : Nat) (h : j < 11) : easyVs[j]? = some (.int .i64 ((easyN[j]'h : Nat) : Int)) := by
  have hj : j = 0 ∨ j = 1 ∨ j = 2 ∨ j = 3 ∨ j = 4 ∨ j = 5 ∨ j = 6 ∨ j = 7 ∨ j = 8 ∨ j = 9 ∨ j = 10 := by omega
  rcases hj with rfl | rfl | rfl | rfl | rfl | rfl | rfl | rfl | rfl | rfl | rfl <;> rfl
theorem easyN_bd (j : Nat) (h : j < 11) : easyN[j]'h < 21 := by
  have hj : j = 0 ∨ j = 1 ∨ j = 2 ∨ j = 3 ∨ j = 4 ∨ j = 5 ∨ j = 6 ∨ j = 7 ∨ j = 8 ∨ j = 9 ∨ j = 10 := by omega
  rcases hj with rfl | rfl | rfl | rfl | rfl | rfl | rfl | rfl | rfl | rfl | rfl <;> simp [easyN]

/-- A move and a truth come back. -/
def RetS (P : Mv → Bool → World → Prop) (e : Ending) (w' : World) : Prop := ∃ m ok, e = .returned (.tuple #[aggM m, .bool ok]) ∧ P m ok w'

set_option maxRecDepth 100000 in
set_option maxHeartbeats 3200000 in
theorem simplerBy_any (ve : Value) (e : List Int) (w : World) (hE : EnvK w) (hx : RdI w ve e) (hv : katV e = true) :
    Calls Tryz.prog 162 #[ve] w (RetS fun m ok w' => Below w.heap.size w w' ∧ ok = (firstEasy e).isSome ∧ ∀ m' x, firstEasy e = some (m', x) → m = m') := by
  have hl40 := (kat_len hv).2
  have HX := Lib.hid hx
  have HE := Lib.hid hE
  have HV := Lib.hid hv
  obtain ⟨ea, ecap, rfl, _⟩ := hx.open
  have HF : Hid (firstEasy e = tryMv e (restE e 0)) := Lib.hid rfl
  obtain ⟨w0, hw0⟩ : ∃ w0, w0 = w.alloc (.cells #[.int .i64 0, .bool false, .int .i64 0] 39) := ⟨_, rfl⟩
  have hb0 : Below w.heap.size w w0 := by rw [hw0]; exact (Below.refl _ _).alloc (Nat.le_refl _) _
  have K0 := Lib.hid (show Blk w.heap.size (.cells #[.int .i64 0, .bool false, .int .i64 0] 39) w0 by rw [hw0]; exact Blk.new w _)
  have HB0 := Lib.hid hb0
  have HW0 := Lib.hid hw0
  clear hx hE hv hb0 hw0
  go_enter Tryz.func162, Tryz.ntmps162
  go_wp2
  simp only [← HW0.out]
  go_loopw [12] (fun i wr => ∃ a : Nat, a ≤ e.length ∧ i = .int .i64 a ∧ Hid (Below w.heap.size w wr ∧ Blk w.heap.size (.cells #[.int .i64 0, .bool false, .int .i64 0] 39) wr ∧ firstEasy e = tryMv e (restE e a))) (fun i _ => e.length - (intOf i).toNat)
  case atStart => exact ⟨0, by omega, rfl, Lib.hid ⟨HB0.out, K0.out, HF.out⟩⟩
  case round =>
    obtain ⟨a, ha, rfl, HQ⟩ := hrel
    have HB := Lib.hid HQ.out.1
    have hsz := HB.out.size
    by_cases hlt : a < e.length
    · have HFA := Lib.hid (HQ.out.2.2.trans (by rw [restE_next e a hlt]))
      obtain ⟨w1, hw1⟩ : ∃ w1, w1 = wr.alloc (.cells easyVs 3) := ⟨_, rfl⟩
      have hb1 : Below wr.heap.size wr w1 := by rw [hw1]; exact (Below.refl _ _).alloc (Nat.le_refl _) _
      obtain ⟨gE, hgE⟩ : ∃ gE, gE = wr.heap.size := ⟨_, rfl⟩
      have HKE := Lib.hid (show Blk gE (.cells easyVs 3) w1 by rw [hw1, hgE]; exact Blk.new wr _)
      have HB1 := Lib.hid (HB.out.trans (hb1.mono hsz))
      have HK1 := Lib.hid (HQ.out.2.1.below hb1 HQ.out.2.1.lt)
      have HW1 := Lib.hid hw1
      clear hb1 hw1 HB0 K0
      go_wp2
      simp only [show (Obj.cells #[.int .i64 2, .int .i64 3, .int .i64 5, .int .i64 6, .int .i64 7, .int .i64 8, .int .i64 15, .int .i64 16, .int .i64 17, .int .i64 18, .int .i64 19] 3) = .cells easyVs 3 from rfl, ← HW1.out]
      have HG := Lib.hid hgE
      clear hgE
      simp only [← HG.out]
      go_loopw [17] (fun i wr => ∃ j : Nat, j ≤ 11 ∧ i = .int .i64 j ∧ Hid (Below w.heap.size w wr ∧ Blk w.heap.size (.cells #[.int .i64 0, .bool false, .int .i64 0] 39) wr ∧ Blk gE (.cells easyVs 3) wr ∧ firstEasy e = tryMv e ((easyAt a).drop j ++ restE e (a + 1)))) (fun i _ => 11 - (intOf i).toNat)
      case atStart => exact ⟨0, by omega, rfl, Lib.hid ⟨HB1.out, HK1.out, HKE.out, HFA.out⟩⟩
      case round =>
        obtain ⟨j, hj, rfl, HI⟩ := hrel
        have HBX := Lib.hid HI.out.1
        have hszx := HBX.out.size
        have HKX := Lib.hid HI.out.2.1
        have HEX := Lib.hid HI.out.2.2.1
        by_cases hjl : j < 11
        · have HFJ := Lib.hid (HI.out.2.2.2.trans (by rw [easyAt_drop a j hjl]; rfl : _ = tryMv e (⟨((easyN[j]'hjl : Nat) : Int), false, (a : Nat)⟩ :: ((easyAt a).drop (j + 1) ++ restE e (a + 1)))))
          have hcell : wr.cell? ⟨gE, j, none⟩ = some (.int .i64 ((easyN[j]'hjl : Nat) : Int)) := (HEX.out.cell j).trans (easyVs_get j hjl)
          generalize (easyN[j]'hjl) = n at HFJ hcell
          obtain ⟨w2, hw2⟩ : ∃ w2, w2 = wr.alloc (.cells #[.int .i64 (n : Nat), .bool false, .int .i64 (a : Nat)] 39) := ⟨_, rfl⟩
          have hb2 : Below wr.heap.size wr w2 := by rw [hw2]; exact (Below.refl _ _).alloc (Nat.le_refl _) _
          have KM := Lib.hid (show Blk wr.heap.size (.cells #[.int .i64 (n : Nat), .bool false, .int .i64 (a : Nat)] 39) w2 by rw [hw2]; exact Blk.new wr _)
          have HB2 := Lib.hid (HBX.out.trans (hb2.mono hszx))
          have HK2 := Lib.hid (HKX.out.below hb2 HKX.out.lt)
          have HE2 := Lib.hid (HEX.out.below hb2 HEX.out.lt)
          have hs2 := HB2.out.size
          have HW2 := Lib.hid hw2
          have k0 := KM.out.cell 0
          have k1 := KM.out.cell 1
          have k2 := KM.out.cell 2
          clear hb2 hw2 HI
          go_wp2_with (rw [← HW2.out])
          refine (do_any _ e ⟨n, false, a⟩ w2 (HE.out.below HB2.out) (HX.out.below HB2.out) HV.out).mono ?_
          rintro e3 w3 ⟨v3, x3, rfl, hb3, hres⟩
          have HB3 := Lib.hid (HB2.out.trans (hb3.mono hs2))
          have HK3 := Lib.hid (HK2.out.below hb3 HK2.out.lt)
          have HE3 := Lib.hid (HE2.out.below hb3 HE2.out.lt)
          have KM3 := Lib.hid (KM.out.below hb3 KM.out.lt)
          clear hb3 hcell HKX HEX HK2 HE2 KM k0 k1 k2
          cases hmv : moveV e ⟨n, false, a⟩ with
          | none =>
            rw [hmv] at hres
            obtain ⟨rfl, g, rfl, _⟩ := hres
            have HN := Lib.hid (HFJ.out.trans (by rw [tryMv, hmv] : _ = tryMv e ((easyAt a).drop (j + 1) ++ restE e (a + 1))))
            clear hmv
            go_wp2
            go_roundw
            case rel => exact ⟨j + 1, by omega, by go_num, Lib.hid ⟨HB3.out, HK3.out, HE3.out, HN.out⟩⟩
            case measure => simp [intOf]; omega
          | some y =>
            rw [hmv] at hres
            obtain ⟨rfl, ho3⟩ := hres
            have HN := Lib.hid (HFJ.out.trans (by rw [tryMv, hmv] : _ = some ((⟨n, false, a⟩ : Mv), y)))
            obtain ⟨ya, yc, rfl, _⟩ := Own.open ho3
            have m0 := KM3.out.cell 0
            have m1 := KM3.out.cell 1
            have m2 := KM3.out.cell 2
            have r0 := HK3.out.cell 0
            have r1 := HK3.out.cell 1
            have r2 := HK3.out.cell 2
            have f0 := HK3.out.free 0
            have f1 := HK3.out.free 1
            have f2 := HK3.out.free 2
            obtain ⟨wz, hwz⟩ : ∃ wz, wz = ((w3.setCell ⟨w.heap.size, 0, none⟩ (.int .i64 (n : Nat))).setCell ⟨w.heap.size, 1, none⟩ (.bool false)).setCell ⟨w.heap.size, 2, none⟩ (.int .i64 (a : Nat)) := ⟨_, rfl⟩
            have KZ := HK3.out.set3 (.int .i64 (n : Nat)) (.bool false) (.int .i64 (a : Nat))
            have hOZ := Outside.set3 w.heap.size w3 (.int .i64 (n : Nat)) (.bool false) (.int .i64 (a : Nat))
            rw [← hwz] at KZ hOZ
            have HZ := Lib.hid (Below.outside HB3.out hOZ (Nat.le_refl _) HB3.out.size)
            have q0 := KZ.cell 0
            have q1 := KZ.cell 1
            have q2 := KZ.cell 2
            clear hmv ho3 KZ hOZ
            go_wp2
            simp only [← hwz]
            clear hwz
            refine bodyPost_ret (v := .tuple #[.agg #[.int .i64 (n : Nat), .bool false, .int .i64 (a : Nat)], .bool true]) (by simp [results, Tryz.results162, go_sem, q0, q1, q2]) rfl ⟨⟨n, false, a⟩, true, rfl, HZ.out, ?_, ?_⟩
            · rw [HN.out]; rfl
            · intro m' x h
              rw [HN.out] at h
              injection h with h
              injection h with h _
        · obtain rfl : j = 11 := by omega
          have HN := Lib.hid (HI.out.2.2.2)
          rw [show (easyAt a).drop 11 = [] from rfl, List.nil_append] at HN
          clear HI
          go_wp2
          go_roundw
          case rel => exact ⟨a + 1, by omega, by go_num, Lib.hid ⟨HBX.out, HKX.out, HN.out⟩⟩
          case measure => simp [intOf]; omega
    · obtain rfl : a = e.length := by omega
      have HN := Lib.hid HQ.out.2.2
      rw [restE_end e _ (Nat.le_refl _)] at HN
      have HK := Lib.hid HQ.out.2.1
      have r0 := HK.out.cell 0
      have r1 := HK.out.cell 1
      have r2 := HK.out.cell 2
      have f0 := HK.out.free 0
      have f1 := HK.out.free 1
      have f2 := HK.out.free 2
      obtain ⟨wz, hwz⟩ : ∃ wz, wz = ((wr.setCell ⟨w.heap.size, 0, none⟩ (.int .i64 0)).setCell ⟨w.heap.size, 1, none⟩ (.bool false)).setCell ⟨w.heap.size, 2, none⟩ (.int .i64 0) := ⟨_, rfl⟩
      have KZ := HK.out.set3 (.int .i64 0) (.bool false) (.int .i64 0)
      have hOZ := Outside.set3 w.heap.size wr (.int .i64 0) (.bool false) (.int .i64 0)
      rw [← hwz] at KZ hOZ
      have HZ := Lib.hid (Below.outside HB.out hOZ (Nat.le_refl _) HB.out.size)
      have q0 := KZ.cell 0
      have q1 := KZ.cell 1
      have q2 := KZ.cell 2
      clear KZ hOZ HQ HK
      go_wp2
      simp only [← hwz]
      clear hwz
      refine bodyPost_ret (v := .tuple #[.agg #[.int .i64 0, .bool false, .int .i64 0], .bool false]) (by simp [results, Tryz.results162, go_sem, q0, q1, q2]) rfl ⟨⟨0, false, 0⟩, false, rfl, HZ.out, ?_, ?_⟩
      · rw [HN.out]; rfl
      · intro m' x h
        rw [HN.out] at h
        cases h
end

section

def lenOf : Value → Nat
  | .slice _ n _ => n
  | _ => 0
theorem mvs_append (a b : List Mv) : mvs (a ++ b) = mvs a ++ mvs b := by simp [mvs]
/-- Moves made so far, and an expression, in rows of their own. -/
def SimS (B : Nat) (w wr : World) (vm vo : Value) (ms : List Mv) (x : List Int) : Prop :=
  Below B w wr ∧ OwnM B wr.heap.size 39 wr vm ms ∧ ∃ lo hi, SlI lo hi wr vo x ∧ hi ≤ wr.heap.size ∧ ∀ g, vm.ownBlock = some g → g < lo ∨ hi ≤ g
theorem SimS.below {B : Nat} {w wr w' : World} {vm vo : Value} {ms : List Mv} {x : List Int} (h : SimS B w wr vm vo ms x) (hB : B ≤ wr.heap.size) (hb : Below wr.heap.size wr w') : SimS B w w' vm vo ms x := by
  obtain ⟨h1, h2, lo, hi, h3, h4, h5⟩ := h
  exact ⟨h1.trans (hb.mono hB), Own.wide (h2.below hb (Nat.le_refl _)) hb.size, lo, hi, h3.below hb h4, Nat.le_trans h4 hb.size, h5⟩
theorem SimS.rd {B : Nat} {w wr : World} {vm vo : Value} {ms : List Mv} {x : List Int} (h : SimS B w wr vm vo ms x) : RdI wr vo x := by
  obtain ⟨_, _, lo, hi, h3, h4, _⟩ := h
  exact SlI.rd h3 h4
/-- A move behind the others; the expression lies in new memory. -/
theorem SimS.step {B : Nat} {w w2 w3 w4 : World} {vm vo v3 v4 : Value} {ms : List Mv} {x y : List Int} {m : Mv} (h : SimS B w w2 vm vo ms x) (hB : B ≤ w2.heap.size) (hb : Below w2.heap.size w2 w3) (ho : OwnI w2.heap.size w3.heap.size 3 w3 v3 y)
    (h4 : Own 3 B w4.heap.size 39 w4 v4 (ms.length + 1) (mvs ms ++ encMv m)) (hg : (w3.alloc (.cells (encMv m).toArray 39)).grownBy w4 vm.ownBlock) (hl : v4.ownBlock = vm.ownBlock ∨ v4.ownBlock = some (w3.heap.size + 1)) :
    SimS B w w4 v4 v3 (ms ++ [m]) y := by
  obtain ⟨h1, h2, _⟩ := h
  have hs := hg.size
  have hs3 : (w3.alloc (.cells (encMv m).toArray 39)).heap.size = w3.heap.size + 1 := by simp
  have hs2 := hb.size
  have hlt := Own.lt h2
  refine ⟨?_, ?_, w2.heap.size, w3.heap.size, ?_, by omega, fun g hg' => ?_⟩
  · have h5 : Below B w (w3.alloc (.cells (encMv m).toArray 39)) := (h1.trans (hb.mono hB)).alloc (by omega) _
    refine ⟨hg.os.trans h5.os, hg.tape.trans h5.tape, hg.output.trans h5.output, Nat.le_trans h5.size hs, fun i hi => ?_⟩
    rw [hg.block i (by omega) (fun e => by have := hlt i e.symm; omega)]
    exact h5.block i hi
  · unfold OwnM
    rw [List.length_append, mvs_append]
    simpa [mvs] using h4
  · have h6 : SlI w2.heap.size w3.heap.size (w3.alloc (.cells (encMv m).toArray 39)) v3 y := hxa_of ho.sl _
    obtain ⟨a, cap, e1, e2, e3, e4, e5, e6⟩ := h6
    refine ⟨a, cap, e1, e2, e3, e4, e5, fun i hi => ?_⟩
    obtain ⟨b, off, f1, f2, f3, f4, f5⟩ := e6 i hi
    refine ⟨b, off, f1, f2, f3, Nat.lt_of_lt_of_le f4 hs, ?_⟩
    rw [World.cell?_of_block (w := w3.alloc (.cells (encMv m).toArray 39)) (a := ⟨b, off + i, none⟩) (hg.block b f4 (fun e => by have := hlt b e.symm; omega))]
    exact f5
  · rcases hl with e | e
    · rw [e] at hg'
      have := hlt g hg'
      exact .inl (by omega)
    · rw [e] at hg'
      injection hg' with hg'
      exact .inr (by omega)
/-- The new expression is still owned. -/
theorem hoy_of {B : Nat} {w w2 w3 w4 : World} {vm vo v3 : Value} {ms : List Mv} {x y : List Int} {o : Obj} (h : SimS B w w2 vm vo ms x) (ho : OwnI w2.heap.size w3.heap.size 3 w3 v3 y) (hg : (w3.alloc o).grownBy w4 vm.ownBlock) (hB : B ≤ w2.heap.size) :
    OwnI B w4.heap.size 3 w4 v3 y := by
  have hlt := Own.lt h.2.1
  have hs := hg.size
  have hs3 : (w3.alloc o).heap.size = w3.heap.size + 1 := by simp
  have h1 := (Own.alloc ho o).1
  have h2 := World.ownsRow.kept h1 hg (by
    cases hb : v3.ownBlock with
    | none => exact .inl rfl
    | some g =>
      refine .inr fun e => ?_
      have h3 := (Own.lt ho g hb).1
      have h4 := hlt g e.symm
      omega)
  exact Own.wide2 ⟨h2, fun g hg' => by have := (Own.lt ho g hg').2; omega⟩ hB (Nat.le_refl _)
theorem encMv_one (m : Mv) : ∀ u ∈ encMv m, u.oneCell' = true := by
  intro u hu
  simp [encMv] at hu
  rcases hu with rfl | rfl | rfl <;> rfl

/-- Two values come back. -/
def RetVV (P : Value → Value → World → Prop) (e : Ending) (w' : World) : Prop := ∃ a b, e = .returned (.tuple #[a, b]) ∧ P a b w'

set_option maxRecDepth 100000 in
set_option maxHeartbeats 3200000 in
theorem simplify_any (ve : Value) (e : List Int) (w : World) (hE : EnvK w) (hx : RdI w ve e) (hv : katV e = true) :
    Calls Tryz.prog 140 #[ve] w (RetVV fun a b w' => SimS w.heap.size w w' a b (simpM e).1 (simpM e).2 ∧ OwnI w.heap.size w'.heap.size 3 w' b (simpM e).2) := by
  have hl40 := (kat_len hv).2
  have hsb := simpM_bd _ e (Nat.le_refl _)
  have HX := Lib.hid hx
  have HE := Lib.hid hE
  have HV := Lib.hid hv
  obtain ⟨ea, ecap, rfl, _⟩ := hx.open
  clear hx hE hv
  go_enter Tryz.func140, Tryz.ntmps140
  go_wp2_with fail
  refine (cloneI_any _ _ _ e _ HX.out (by omega)).mono ?_
  rintro e1 w1 ⟨v1, rfl, hb1, ho1⟩
  have HB1 := Lib.hid hb1
  have HO1 := Lib.hid ho1
  obtain ⟨a1, c1, rfl, _⟩ := Own.open ho1
  clear hb1 ho1
  go_wp2
  go_loopw [4, 5] (fun vm vo wr => ∃ (ms : List Mv) (x : List Int), ms.length + x.length ≤ e.length ∧ Hid (SimS w.heap.size w wr vm vo ms x ∧ OwnI w.heap.size wr.heap.size 3 wr vo x ∧ katV x = true ∧ simpM e = (ms ++ (simpM x).1, (simpM x).2))) (fun _ vo _ => lenOf vo)
  case atStart => exact ⟨[], e, by simp, Lib.hid ⟨⟨HB1.out, Own.nil _ _ _ _ _, w.heap.size, w1.heap.size, HO1.out.sl, Nat.le_refl _, fun g hg => by cases hg⟩, HO1.out, HV.out, by simp⟩⟩
  case round =>
    obtain ⟨ms, x, hlen, HQ⟩ := hrel
    obtain ⟨oa, oc, rfl, _⟩ := Own.open HQ.out.2.1
    obtain ⟨na, nc, rfl, _⟩ := Own.open HQ.out.1.2.1
    have hB := HQ.out.1.1.size
    have HR := Lib.hid HQ.out.1.rd
    go_wp2_with fail
    refine (simplerBy_any _ x wr (HE.out.below HQ.out.1.1) HR.out HQ.out.2.2.1).mono ?_
    rintro e2 w2 ⟨m, ok, rfl, hb2, rfl, hm⟩
    have HS2 := Lib.hid (HQ.out.1.below hB hb2)
    have HO2 := Lib.hid (HQ.out.2.1.below hb2 (Nat.le_refl _))
    have HKX := Lib.hid HQ.out.2.2.1
    have HSM := Lib.hid HQ.out.2.2.2
    have hs2 := hb2.size
    have hB2 : w.heap.size ≤ w2.heap.size := by omega
    obtain ⟨w3, hw3⟩ : ∃ w3, w3 = w2.alloc (.cells #[.int .i64 m.which, .bool m.back, .int .i64 m.at_] 39) := ⟨_, rfl⟩
    have hb3 : Below w2.heap.size w2 w3 := by rw [hw3]; exact (Below.refl _ _).alloc (Nat.le_refl _) _
    have KM := Lib.hid (show Blk w2.heap.size (.cells #[.int .i64 m.which, .bool m.back, .int .i64 m.at_] 39) w3 by rw [hw3]; exact Blk.new w2 _)
    have HS3 := Lib.hid (HS2.out.below hB2 hb3)
    have HO3 := Lib.hid (HO2.out.below hb3 hs2)
    have hs3 := hb3.size
    have HW3 := Lib.hid hw3
    clear hb2 hb3 hw3 HQ HR
    cases hf : firstEasy x with
    | none =>
      have hsn := simpM_none hf
      have HFIN := Lib.hid (show simpM e = (ms, x) by rw [HSM.out, hsn]; simp)
      clear hf hm hsn
      simp only [Option.isSome_none]
      go_wp2
      simp only [← HW3.out]
      go_ret2
      refine ⟨_, _, rfl, ?_, ?_⟩
      · rw [HFIN.out]; exact HS3.out
      · rw [HFIN.out]; exact Own.wide HO3.out (by omega)
    | some p =>
      obtain ⟨m', y⟩ := p
      obtain rfl := hm m' y hf
      obtain ⟨hmv, hbk, hyl, hky⟩ := firstEasy_some hf
      have hsm := simpM_some hf
      have HFIN := Lib.hid (show simpM e = ((ms ++ [m]) ++ (simpM y).1, (simpM y).2) by rw [HSM.out, hsm]; simp)
      have HKY := Lib.hid hky
      have HMV := Lib.hid hmv
      have k0 := KM.out.cell 0
      have k1 := KM.out.cell 1
      have k2 := KM.out.cell 2
      clear hf hm hsm hky hmv hbk
      simp only [Option.isSome_some]
      go_wp2_with (rw [← HW3.out])
      refine (do_any _ x m w3 (HE.out.below HS3.out.1) HS3.out.rd HKX.out).mono ?_
      rintro e4 w4 ⟨v4, x4, rfl, hb4, hres⟩
      rw [HMV.out] at hres
      obtain ⟨rfl, ho4⟩ := hres
      have HS4 := Lib.hid (HS3.out.below (by omega) hb4)
      have KM4 := Lib.hid (KM.out.below hb4 KM.out.lt)
      have HB4 := Lib.hid hb4
      have HO4 := Lib.hid ho4
      have hs4 := hb4.size
      obtain ⟨ya, yc, rfl, _⟩ := Own.open ho4
      clear hb4 ho4 k0 k1 k2 KM
      have k0 := KM4.out.cell 0
      have k1 := KM4.out.cell 1
      have k2 := KM4.out.cell 2
      have HOM := Lib.hid (show Own 3 w.heap.size w4.heap.size 39 w4 (.slice na ms.length nc) ms.length (mvs ms) from HS4.out.2.1)
      go_wp2_with (at_builtin; go_loud (refine wpList_app_lit_at w4 rfl _ _ 29 rfl 39 (.agg #[.int .i64 0, .bool false, .int .i64 0]) 3 24 Tryz.underlying29 info_mv rfl (by decide) (by decide) rfl HOM.out 1 (encMv m) rfl rfl (encMv_one m) rfl (by omega) (by omega) ?_))
      intro v5 w5 ho5 hg5 hl5 _
      have HS5 := Lib.hid (SimS.step (m := m) HS3.out (by omega) HB4.out HO4.out ho5 hg5 hl5)
      have HOY := Lib.hid (hoy_of HS3.out HO4.out hg5 (by omega))
      obtain ⟨za, zc, rfl, _⟩ := Own.open ho5
      clear ho5 hg5 hl5 k0 k1 k2
      go_wp2
      go_roundw
      case rel => exact ⟨ms ++ [m], y, by simp; omega, Lib.hid ⟨HS5.out, HOY.out, HKY.out, HFIN.out⟩⟩
      case measure => simp [lenOf]; omega
end

section

set_option maxRecDepth 100000 in
theorem l9Easy_any (w : World) : Calls Tryz.prog 124 #[] w fun e w' => e = .returned (.slice (some ⟨w.heap.size, 0, none⟩) 11 11) ∧ w' = w.alloc (.cells easyVs 3) := by
  go_enter Tryz.func124, Tryz.ntmps124
  go_wp2
  go_ret
  exact ⟨rfl, rfl⟩
theorem Own.form {sz lo hi e n : Nat} {w : World} {v : Value} {xs : List Value} (h : Own sz lo hi e w v n xs) : ∃ a k c, v = .slice a k c := by
  obtain ⟨a, c, h, _⟩ := Own.open h
  exact ⟨a, n, c, h⟩
def foundOf : Value → Nat
  | .bool true => 0
  | _ => 1
def simpBy (e : List Int) : List Mv := if katV e then (simpM e).1 else []

set_option maxRecDepth 100000 in
set_option maxHeartbeats 6400000 in
theorem spec_SimpleBy (ve : Value) (e : List Int) (w : World) (hx : RdI w ve e) (hm : e.length ≤ 1048576) :
    Calls Tryz.prog 85 #[ve] w (RetV fun v w' => Below w.heap.size w w' ∧ OwnM w.heap.size w'.heap.size 39 w' v (simpBy e)) := by
  have HX := Lib.hid hx
  obtain ⟨ea, ecap, rfl, _⟩ := hx.open
  obtain ⟨w0, hw0⟩ : ∃ w0, w0 = w.alloc (.cells #[] 39) := ⟨_, rfl⟩
  have hb0 : Below w.heap.size w w0 := by rw [hw0]; exact (Below.refl _ _).alloc (Nat.le_refl _) _
  have hs0 : w0.heap.size = w.heap.size + 1 := by rw [hw0]; simp
  have HO0 : Hid (OwnM w.heap.size w0.heap.size 39 w0 (.slice (some ⟨w.heap.size, 0, none⟩) 0 0) []) := by rw [hw0]; exact Lib.hid (Own.wide (Own.lit 3 39 w [] 0 (by omega) rfl) (by simp))
  have HB0 := Lib.hid hb0
  have HX0 := Lib.hid (SlI.below HX.out hb0 (Nat.le_refl _))
  have HW0 := Lib.hid hw0
  clear hx hb0 hw0
  go_enter Tryz.func85, Tryz.ntmps85
  go_wp2
  simp only [← HW0.out]
  go_loopw [3, 4] (fun vm vo wr => ∃ (ms : List Mv) (x : List Int), x.length ≤ 1048576 ∧ ms.length ≤ 40 ∧ Hid (SimS w.heap.size w wr vm vo ms x ∧ ((katV e = true ∧ katV x = true ∧ ms.length + x.length ≤ e.length ∧ simpM e = (ms ++ (simpM x).1, (simpM x).2)) ∨ (katV e = false ∧ ms = [] ∧ x = e)))) (fun _ vo _ => lenOf vo)
  case atStart =>
    refine ⟨[], e, hm, by simp, Lib.hid ⟨⟨HB0.out, HO0.out, 0, w.heap.size, HX0.out, by omega, fun g hg => ?_⟩, ?_⟩⟩
    · simp [Value.ownBlock] at hg
      omega
    · cases hk : katV e
      · exact .inr ⟨rfl, rfl, rfl⟩
      · exact .inl ⟨rfl, rfl, by simp, by simp⟩
  case round =>
    obtain ⟨ms, x, hxl, hml, HQ⟩ := hrel
    have HR := Lib.hid HQ.out.1.rd
    obtain ⟨oa, oc, rfl, _⟩ := HR.out.open
    obtain ⟨na, nc, rfl, _⟩ := Own.open HQ.out.1.2.1
    have hB := HQ.out.1.1.size
    go_wp2_with fail
    refine (spec_KatValid _ _ _ x _ HR.out hxl).mono ?_
    rintro e1 wx ⟨rfl, rfl⟩
    rcases HQ.out.2 with ⟨hke, hkx, hlen, hsm⟩ | ⟨hke, rfl, rfl⟩
    · rw [hkx]
      have hl40 := (kat_len hkx).2
      have HKE := Lib.hid hke
      have HKX := Lib.hid hkx
      have HSM := Lib.hid hsm
      have HS := Lib.hid HQ.out.1
      have HF : Hid (firstEasy x = tryMv x (restE x 0)) := Lib.hid rfl
      clear hke hkx hsm HQ HR HX0 HO0 HB0
      go_wp2
      go_loopw [3, 4, 5, 6] (fun vm vo fd i wr => ∃ a : Nat, i = .int .i64 a ∧ ((fd = .bool false ∧ vm = .slice na ms.length nc ∧ vo = .slice oa x.length oc ∧ a ≤ x.length ∧ Hid (SimS w.heap.size w wr vm vo ms x ∧ firstEasy x = tryMv x (restE x a))) ∨ (fd = .bool true ∧ a ≤ 41 ∧ ∃ m y, Hid (SimS w.heap.size w wr vm vo (ms ++ [m]) y ∧ firstEasy x = some (m, y))))) (fun _ _ fd i _ => foundOf fd * (42 - (intOf i).toNat))
      case atStart => exact ⟨0, rfl, .inl ⟨rfl, rfl, rfl, by omega, Lib.hid ⟨HS.out, HF.out⟩⟩⟩
      case round =>
        obtain ⟨a, rfl, ⟨rfl, rfl, rfl, ha, HI⟩ | ⟨rfl, ha, m, y, HI⟩⟩ := hrel
        · by_cases hlt : a < x.length
          · have HFA := Lib.hid (HI.out.2.trans (by rw [restE_next x a hlt]))
            have hsz := HI.out.1.1.size
            obtain ⟨w1, hw1⟩ : ∃ w1, w1 = wr.alloc (.cells easyVs 3) := ⟨_, rfl⟩
            have hb1 : Below wr.heap.size wr w1 := by rw [hw1]; exact (Below.refl _ _).alloc (Nat.le_refl _) _
            obtain ⟨gE, hgE⟩ : ∃ gE, gE = wr.heap.size := ⟨_, rfl⟩
            have HKE := Lib.hid (show Blk gE (.cells easyVs 3) w1 by rw [hw1, hgE]; exact Blk.new wr _)
            have HS1 := Lib.hid (HI.out.1.below hsz hb1)
            have HW1 := Lib.hid hw1
            have HG := Lib.hid hgE
            clear hb1 hw1 hgE HI
            go_wp2_with (go_at_call 124; refine (l9Easy_any _).mono ?_; rintro e2 wx2 ⟨rfl, rfl⟩; simp only [← HW1.out, ← HG.out])
            go_loopw [3, 4, 5, 8] (fun vm vo fd i wr => ∃ j : Nat, i = .int .i64 j ∧ ((fd = .bool false ∧ vm = .slice na ms.length nc ∧ vo = .slice oa x.length oc ∧ j ≤ 11 ∧ Hid (SimS w.heap.size w wr vm vo ms x ∧ Blk gE (.cells easyVs 3) wr ∧ firstEasy x = tryMv x ((easyAt a).drop j ++ restE x (a + 1)))) ∨ (fd = .bool true ∧ j ≤ 12 ∧ ∃ m y, Hid (SimS w.heap.size w wr vm vo (ms ++ [m]) y ∧ firstEasy x = some (m, y))))) (fun _ _ fd i _ => foundOf fd * (13 - (intOf i).toNat))
            case atStart => exact ⟨0, rfl, .inl ⟨rfl, rfl, rfl, by omega, Lib.hid ⟨HS1.out, HKE.out, HFA.out⟩⟩⟩
            case round =>
              obtain ⟨j, rfl, ⟨rfl, rfl, rfl, hj, HJ⟩ | ⟨rfl, hj, m, y, HJ⟩⟩ := hrel
              · have HSJ := Lib.hid HJ.out.1
                have hszj := HSJ.out.1.size
                have HEJ := Lib.hid HJ.out.2.1
                by_cases hjl : j < 11
                · have HFJ := Lib.hid (HJ.out.2.2.trans (by rw [easyAt_drop a j hjl]; rfl : _ = tryMv x (⟨((easyN[j]'hjl : Nat) : Int), false, (a : Nat)⟩ :: ((easyAt a).drop (j + 1) ++ restE x (a + 1)))))
                  have hcell : wr.cell? ⟨gE, j, none⟩ = some (.int .i64 ((easyN[j]'hjl : Nat) : Int)) := (HEJ.out.cell j).trans (easyVs_get j hjl)
                  generalize (easyN[j]'hjl) = n at HFJ hcell
                  obtain ⟨w2, hw2⟩ : ∃ w2, w2 = wr.alloc (.cells #[.int .i64 (n : Nat), .bool false, .int .i64 (a : Nat)] 39) := ⟨_, rfl⟩
                  have hb2 : Below wr.heap.size wr w2 := by rw [hw2]; exact (Below.refl _ _).alloc (Nat.le_refl _) _
                  have KM := Lib.hid (show Blk wr.heap.size (.cells #[.int .i64 (n : Nat), .bool false, .int .i64 (a : Nat)] 39) w2 by rw [hw2]; exact Blk.new wr _)
                  have HS2 := Lib.hid (HSJ.out.below hszj hb2)
                  have HE2 := Lib.hid (HEJ.out.below hb2 HEJ.out.lt)
                  have hs2 := HS2.out.1.size
                  have HW2 := Lib.hid hw2
                  have k0 := KM.out.cell 0
                  have k1 := KM.out.cell 1
                  have k2 := KM.out.cell 2
                  clear hb2 hw2 HJ
                  go_wp2_with (rw [← HW2.out])
                  refine (spec_MoveDo _ x ⟨n, false, a⟩ w2 HS2.out.rd hxl).mono ?_
                  rintro e3 w3 ⟨v3, b3, rfl, hb3, rfl, ho3⟩
                  have HB3 := Lib.hid hb3
                  have hs3 := hb3.size
                  have HS3 := Lib.hid (HS2.out.below hs2 hb3)
                  have HE3 := Lib.hid (HE2.out.below hb3 HE2.out.lt)
                  have KM3 := Lib.hid (KM.out.below hb3 KM.out.lt)
                  obtain ⟨ya, yc, rfl, _⟩ := Own.open ho3
                  clear hb3 hcell HSJ HEJ HE2 KM k0 k1 k2
                  cases hmv : moveV x ⟨n, false, a⟩ with
                  | none =>
                    have HN := Lib.hid (HFJ.out.trans (by rw [tryMv, hmv] : _ = tryMv x ((easyAt a).drop (j + 1) ++ restE x (a + 1))))
                    clear hmv ho3
                    simp only [Option.isSome_none]
                    go_wp2
                    go_roundw
                    case rel => exact ⟨j + 1, by go_num, .inl ⟨rfl, rfl, rfl, by omega, Lib.hid ⟨HS3.out, HE3.out, HN.out⟩⟩⟩
                    case measure => simp [intOf, foundOf]; omega
                  | some y =>
                    rw [hmv] at ho3
                    have HN := Lib.hid (HFJ.out.trans (by rw [tryMv, hmv] : _ = some ((⟨n, false, a⟩ : Mv), y)))
                    have HO3 := Lib.hid (show OwnI w2.heap.size w3.heap.size 3 w3 (.slice ya y.length yc) y from ho3)
                    have m0 := KM3.out.cell 0
                    have m1 := KM3.out.cell 1
                    have m2 := KM3.out.cell 2
                    have HOM := Lib.hid (show Own 3 w.heap.size w3.heap.size 39 w3 (.slice na ms.length nc) ms.length (mvs ms) from HS3.out.2.1)
                    clear hmv ho3
                    simp only [Option.isSome_some, Option.getD_some]
                    go_wp2_with (at_builtin; go_loud (refine wpList_app_lit_at w3 rfl _ _ 29 rfl 39 (.agg #[.int .i64 0, .bool false, .int .i64 0]) 3 24 Tryz.underlying29 info_mv rfl (by decide) (by decide) rfl HOM.out 1 (encMv ⟨n, false, a⟩) rfl rfl (encMv_one _) rfl (by omega) (by omega) ?_))
                    intro v5 w5 ho5 hg5 hl5 _
                    have HS5 := Lib.hid (SimS.step (m := ⟨n, false, a⟩) HS2.out (by omega) HB3.out HO3.out ho5 hg5 hl5)
                    obtain ⟨za, zc, rfl, _⟩ := Own.open ho5
                    clear ho5 hg5 hl5 m0 m1 m2
                    go_wp2
                    go_roundw
                    case rel => exact ⟨j + 1, by go_num, .inr ⟨rfl, by omega, ⟨n, false, a⟩, y, Lib.hid ⟨HS5.out, HN.out⟩⟩⟩
                    case measure => simp [intOf, foundOf]; omega
                · obtain rfl : j = 11 := by omega
                  have HN := Lib.hid HJ.out.2.2
                  rw [show (easyAt a).drop 11 = [] from rfl, List.nil_append] at HN
                  clear HJ HEJ
                  go_wp2
                  go_roundw
                  case rel => exact ⟨a + 1, by go_num, .inl ⟨rfl, rfl, rfl, by omega, Lib.hid ⟨HSJ.out, HN.out⟩⟩⟩
                  case measure => simp [intOf, foundOf]; omega
              · obtain ⟨pa, pn, pc, rfl⟩ := Own.form HJ.out.1.2.1
                obtain ⟨qa, qc, rfl, _⟩ := HJ.out.1.rd.open
                by_cases hjl : j < 11
                · go_wp2
                  go_roundw
                  case rel => exact ⟨a + 1, by go_num, .inr ⟨rfl, by omega, m, y, HJ⟩⟩
                  case measure => simp [intOf, foundOf]; omega
                · go_wp2
                  go_roundw
                  case rel => exact ⟨a + 1, by go_num, .inr ⟨rfl, by omega, m, y, HJ⟩⟩
                  case measure => simp [intOf, foundOf]; omega
          · obtain rfl : a = x.length := by omega
            have HN := Lib.hid HI.out.2
            rw [restE_end x _ (Nat.le_refl _)] at HN
            have hsn := simpM_none (show firstEasy x = none from HN.out)
            have HFIN := Lib.hid (show simpBy e = ms by rw [simpBy, HKE.out, if_pos rfl, HSM.out, hsn]; simp)
            clear hsn
            go_wp2
            go_ret
            refine RetV.mk _ rfl ⟨HI.out.1.1, ?_⟩
            rw [HFIN.out]
            exact HI.out.1.2.1
        · obtain ⟨pa, pn, pc, rfl⟩ := Own.form HI.out.1.2.1
          obtain ⟨qa, qc, rfl, _⟩ := HI.out.1.rd.open
          obtain ⟨hmv, hbk, hyl, hky⟩ := firstEasy_some HI.out.2
          have hsm := simpM_some HI.out.2
          have HFIN := Lib.hid (show simpM e = ((ms ++ [m]) ++ (simpM y).1, (simpM y).2) by rw [HSM.out, hsm]; simp)
          have HKY := Lib.hid hky
          have hml2 : (ms ++ [m]).length = ms.length + 1 := by simp
          have he40 := (kat_len HKE.out).2
          clear hmv hky hsm hbk
          by_cases hlt : a < y.length
          all_goals (
            go_wp2
            go_roundw
            case rel => exact ⟨ms ++ [m], y, by omega, by omega, Lib.hid ⟨HI.out.1, .inl ⟨HKE.out, HKY.out, by omega, HFIN.out⟩⟩⟩
            case measure => simp [lenOf]; omega)
    · rw [hke]
      have HOUT := Lib.hid (show simpBy x = [] by simp [simpBy, hke])
      clear hke
      go_wp2
      go_ret
      refine RetV.mk _ rfl ⟨HQ.out.1.1.alloc hB _, ?_⟩
      rw [HOUT.out]
      exact Own.wide2 (Own.lit 3 39 _ [] 0 (by omega) rfl) hB (by simp)
end

section

def simpE (e : List Int) : List Int := if katV e then (simpM e).2 else []
theorem simpBy_len (e : List Int) : (simpBy e).length ≤ 40 := by
  unfold simpBy
  split
  · rename_i h
    have := simpM_bd _ e (Nat.le_refl _)
    have := (kat_len h).2
    omega
  · simp
theorem simpE_len (e : List Int) : (simpE e).length ≤ 40 := by
  unfold simpE
  split
  · rename_i h
    have := simpM_bd _ e (Nat.le_refl _)
    have := (kat_len h).2
    omega
  · simp

set_option maxRecDepth 100000 in
set_option maxHeartbeats 1600000 in
theorem impl_SimpleBy (ve : Value) (e : List Int) (w : World) (hE : EnvK w) (hx : RdI w ve e) (hm : e.length ≤ 1048576) :
    Calls Tryz.prog 107 #[ve] w (RetV fun v w' => Below w.heap.size w w' ∧ OwnM w.heap.size w'.heap.size 39 w' v (simpBy e)) := by
  have HX := Lib.hid hx
  have HE := Lib.hid hE
  obtain ⟨ea, ecap, rfl, _⟩ := hx.open
  clear hx hE
  cases hkv : katV e
  · have HR := Lib.hid (show simpBy e = [] by simp [simpBy, hkv])
    go_enter Tryz.func107, Tryz.ntmps107
    go_wp2_with fail
    refine (impl_KatValid _ _ _ e _ HX.out hm).mono ?_
    rintro e1 w1 ⟨rfl, rfl⟩
    rw [hkv]
    go_wp2
    go_ret
    exact RetV.mk _ rfl ⟨Below.refl _ _, by rw [HR.out]; exact Own.nil _ _ _ _ _⟩
  · have HR := Lib.hid (show simpBy e = (simpM e).1 by simp [simpBy, hkv])
    have HKV := Lib.hid hkv
    go_enter Tryz.func107, Tryz.ntmps107
    go_wp2_with fail
    refine (impl_KatValid _ _ _ e _ HX.out hm).mono ?_
    rintro e1 w1 ⟨rfl, rfl⟩
    rw [hkv]
    clear hkv
    go_wp2_with fail
    refine (simplify_any _ e _ HE.out HX.out HKV.out).mono ?_
    rintro e2 w2 ⟨va, vb, rfl, hs, ho⟩
    have HS := Lib.hid hs
    obtain ⟨na, nc, rfl, _⟩ := Own.open hs.2.1
    obtain ⟨oa, oc, rfl, _⟩ := Own.open ho
    clear hs ho
    go_wp2
    go_ret
    exact RetV.mk _ rfl ⟨HS.out.1, by rw [HR.out]; exact HS.out.2.1⟩

end
end Go.Proofs.YtipbanhelhidnaaGreatDoor
