/-
  Texts of walks and plain lemmas for this seat; no condition.
-/
import Derived.Test.YtadihfjmgckdaaaGreatDoorGI
import Derived.Test.YtadihfjmgckdaaaGreatDoorGG
namespace Go.Proofs.YtadihfjmgckdaaaGreatDoor
open Go.RowKit
section

def easyAt (a : Nat) : List Mv := easyN.map fun n => ⟨(n : Nat), false, (a : Nat)⟩
def restE (e : List Int) (a : Nat) : List Mv := ((List.range e.length).drop a).flatMap easyAt
theorem restE_end (e : List Int) (a : Nat) (h : e.length ≤ a) : restE e a = [] := by unfold restE; rw [List.drop_of_length_le (by simpa using h)]; rfl
theorem restE_next (e : List Int) (a : Nat) (h : a < e.length) : restE e a = easyAt a ++ restE e (a + 1) := by
  unfold restE
  rw [List.drop_eq_getElem_cons (by simpa using h)]
  simp
theorem easyAt_len (a : Nat) : (easyAt a).length = 11 := rfl
theorem easyAt_drop (a j : Nat) (h : j < 11) : (easyAt a).drop j = ⟨((easyN[j]'h : Nat) : Int), false, (a : Nat)⟩ :: (easyAt a).drop (j + 1) := by
  rw [List.drop_eq_getElem_cons (by rw [easyAt_len]; exact h)]
  simp [easyAt]
  rfl
def easyVs : Array Value := #[.int .i64 2, .int .i64 3, .int .i64 5, .int .i64 6, .int .i64 7, .int .i64 8, .int .i64 15, .int .i64 16, .int .i64 17, .int .i64 18, .int .i64 19]
theorem easyVs_get (j : Nat) (h : j < 11) : easyVs[j]? = some (.int .i64 ((easyN[j]'h : Nat) : Int)) := by
  have hj : j = 0 ∨ j = 1 ∨ j = 2 ∨ j = 3 ∨ j = 4 ∨ j = 5 ∨ j = 6 ∨ j = 7 ∨ j = 8 ∨ j = 9 ∨ j = 10 := by omega
  rcases hj with rfl | rfl | rfl | rfl | rfl | rfl | rfl | rfl | rfl | rfl | rfl <;> rfl
end

section

def lenOf : Value → Nat
  | .slice _ n _ => n
  | _ => 0
theorem mvs_append (a b : List Mv) : mvs (a ++ b) = mvs a ++ mvs b := by simp [mvs]
/-- Moves made so far, and an expression, in rows of their own. -/
def SimS (B : Nat) (w wr : World) (vm vo : Value) (ms : List Mv) (x : List Int) : Prop :=
  Below B w wr ∧ OwnM B wr.heap.size 56 wr vm ms ∧ ∃ lo hi, SlI lo hi wr vo x ∧ hi ≤ wr.heap.size ∧ ∀ g, vm.ownBlock = some g → g < lo ∨ hi ≤ g
theorem SimS.below {B : Nat} {w wr w' : World} {vm vo : Value} {ms : List Mv} {x : List Int} (h : SimS B w wr vm vo ms x) (hB : B ≤ wr.heap.size) (hb : Below wr.heap.size wr w') : SimS B w w' vm vo ms x := by
  obtain ⟨h1, h2, lo, hi, h3, h4, h5⟩ := h
  exact ⟨h1.trans (hb.mono hB), Own.wide (h2.below hb (Nat.le_refl _)) hb.size, lo, hi, h3.below hb h4, Nat.le_trans h4 hb.size, h5⟩
theorem SimS.rd {B : Nat} {w wr : World} {vm vo : Value} {ms : List Mv} {x : List Int} (h : SimS B w wr vm vo ms x) : RdI wr vo x := by
  obtain ⟨_, _, lo, hi, h3, h4, _⟩ := h
  exact SlI.rd h3 h4
/-- A move behind the others; the expression lies in new memory. -/
theorem SimS.step {B : Nat} {w w2 w3 w4 : World} {vm vo v3 v4 : Value} {ms : List Mv} {x y : List Int} {m : Mv} (h : SimS B w w2 vm vo ms x) (hB : B ≤ w2.heap.size) (hb : Below w2.heap.size w2 w3) (ho : OwnI w2.heap.size w3.heap.size 3 w3 v3 y)
    (h4 : Own 3 B w4.heap.size 56 w4 v4 (ms.length + 1) (mvs ms ++ encMv m)) (hg : (w3.alloc (.cells (encMv m).toArray 56)).grownBy w4 vm.ownBlock) (hl : v4.ownBlock = vm.ownBlock ∨ v4.ownBlock = some (w3.heap.size + 1)) :
    SimS B w w4 v4 v3 (ms ++ [m]) y := by
  obtain ⟨h1, h2, _⟩ := h
  have hs := hg.size
  have hs3 : (w3.alloc (.cells (encMv m).toArray 56)).heap.size = w3.heap.size + 1 := by simp
  have hs2 := hb.size
  have hlt := Own.lt h2
  refine ⟨?_, ?_, w2.heap.size, w3.heap.size, ?_, by omega, fun g hg' => ?_⟩
  · have h5 : Below B w (w3.alloc (.cells (encMv m).toArray 56)) := (h1.trans (hb.mono hB)).alloc (by omega) _
    refine ⟨hg.os.trans h5.os, hg.tape.trans h5.tape, hg.output.trans h5.output, Nat.le_trans h5.size hs, fun i hi => ?_⟩
    rw [hg.block i (by omega) (fun e => by have := hlt i e.symm; omega)]
    exact h5.block i hi
  · unfold OwnM
    rw [List.length_append, mvs_append]
    simpa [mvs] using h4
  · have h6 : SlI w2.heap.size w3.heap.size (w3.alloc (.cells (encMv m).toArray 56)) v3 y := hxa_of ho.sl _
    obtain ⟨a, cap, e1, e2, e3, e4, e5, e6⟩ := h6
    refine ⟨a, cap, e1, e2, e3, e4, e5, fun i hi => ?_⟩
    obtain ⟨b, off, f1, f2, f3, f4, f5⟩ := e6 i hi
    refine ⟨b, off, f1, f2, f3, Nat.lt_of_lt_of_le f4 hs, ?_⟩
    rw [World.cell?_of_block (w := w3.alloc (.cells (encMv m).toArray 56)) (a := ⟨b, off + i, none⟩) (hg.block b f4 (fun e => by have := hlt b e.symm; omega))]
    exact f5
  · rcases hl with e | e
    · rw [e] at hg'
      have := hlt g hg'
      exact .inl (by omega)
    · rw [e] at hg'
      injection hg' with hg'
      exact .inr (by omega)
theorem encMv_one (m : Mv) : ∀ u ∈ encMv m, u.oneCell' = true := by
  intro u hu
  simp [encMv] at hu
  rcases hu with rfl | rfl | rfl <;> rfl

/-- Two values come back. -/
def RetVV (P : Value → Value → World → Prop) (e : Ending) (w' : World) : Prop := ∃ a b, e = .returned (.tuple #[a, b]) ∧ P a b w'

end

section

set_option maxRecDepth 100000 in
theorem l9Easy_any (w : World) : Calls Tryz.prog 89 #[] w fun e w' => e = .returned (.slice (some ⟨w.heap.size, 0, none⟩) 11 11) ∧ w' = w.alloc (.cells easyVs 3) := by
  go_enter Tryz.func89, Tryz.ntmps89
  go_wp2
  go_ret
  exact ⟨rfl, rfl⟩
theorem Own.form {sz lo hi e n : Nat} {w : World} {v : Value} {xs : List Value} (h : Own sz lo hi e w v n xs) : ∃ a k c, v = .slice a k c := by
  obtain ⟨a, c, h, _⟩ := Own.open h
  exact ⟨a, n, c, h⟩
def foundOf : Value → Nat
  | .bool true => 0
  | _ => 1
def simpBy (e : List Int) : List Mv := if katV e then (simpM e).1 else []

set_option maxRecDepth 100000 in
set_option maxHeartbeats 6400000 in
theorem spec_SimpleBy (ve : Value) (e : List Int) (w : World) (hx : RdI w ve e) (hm : e.length ≤ 1048576) :
    Calls Tryz.prog 43 #[ve] w (RetV fun v w' => Below w.heap.size w w' ∧ OwnM w.heap.size w'.heap.size 56 w' v (simpBy e)) := by
  have HX := Lib.hid hx
  obtain ⟨ea, ecap, rfl, _⟩ := hx.open
  obtain ⟨w0, hw0⟩ : ∃ w0, w0 = w.alloc (.cells #[] 56) := ⟨_, rfl⟩
  have hb0 : Below w.heap.size w w0 := by rw [hw0]; exact (Below.refl _ _).alloc (Nat.le_refl _) _
  have hs0 : w0.heap.size = w.heap.size + 1 := by rw [hw0]; simp
  have HO0 : Hid (OwnM w.heap.size w0.heap.size 56 w0 (.slice (some ⟨w.heap.size, 0, none⟩) 0 0) []) := by rw [hw0]; exact Lib.hid (Own.wide (Own.lit 3 56 w [] 0 (by omega) rfl) (by simp))
  have HB0 := Lib.hid hb0
  have HX0 := Lib.hid (SlI.below HX.out hb0 (Nat.le_refl _))
  have HW0 := Lib.hid hw0
  clear hx hb0 hw0
  go_enter Tryz.func43, Tryz.ntmps43
  go_wp2
  simp only [← HW0.out]
  go_loopw [3, 4] (fun vm vo wr => ∃ (ms : List Mv) (x : List Int), x.length ≤ 1048576 ∧ ms.length ≤ 40 ∧ Hid (SimS w.heap.size w wr vm vo ms x ∧ ((katV e = true ∧ katV x = true ∧ ms.length + x.length ≤ e.length ∧ simpM e = (ms ++ (simpM x).1, (simpM x).2)) ∨ (katV e = false ∧ ms = [] ∧ x = e)))) (fun _ vo _ => lenOf vo)
  case atStart =>
    refine ⟨[], e, hm, by simp, Lib.hid ⟨⟨HB0.out, HO0.out, 0, w.heap.size, HX0.out, by omega, fun g hg => ?_⟩, ?_⟩⟩
    · simp [Value.ownBlock] at hg
      omega
    · cases hk : katV e
      · exact .inr ⟨rfl, rfl, rfl⟩
      · exact .inl ⟨rfl, rfl, by simp, by simp⟩
  case round =>
    obtain ⟨ms, x, hxl, hml, HQ⟩ := hrel
    have HR := Lib.hid HQ.out.1.rd
    obtain ⟨oa, oc, rfl, _⟩ := HR.out.open
    obtain ⟨na, nc, rfl, _⟩ := Own.open HQ.out.1.2.1
    have hB := HQ.out.1.1.size
    go_wp2_with fail
    refine (spec_KatValid _ _ _ x _ HR.out hxl).mono ?_
    rintro e1 wx ⟨rfl, rfl⟩
    rcases HQ.out.2 with ⟨hke, hkx, hlen, hsm⟩ | ⟨hke, rfl, rfl⟩
    · rw [hkx]
      have hl40 := (kat_len hkx).2
      have HKE := Lib.hid hke
      have HKX := Lib.hid hkx
      have HSM := Lib.hid hsm
      have HS := Lib.hid HQ.out.1
      have HF : Hid (firstEasy x = tryMv x (restE x 0)) := Lib.hid rfl
      clear hke hkx hsm HQ HR HX0 HO0 HB0
      go_wp2
      go_loopw [3, 4, 5, 6] (fun vm vo fd i wr => ∃ a : Nat, i = .int .i64 a ∧ ((fd = .bool false ∧ vm = .slice na ms.length nc ∧ vo = .slice oa x.length oc ∧ a ≤ x.length ∧ Hid (SimS w.heap.size w wr vm vo ms x ∧ firstEasy x = tryMv x (restE x a))) ∨ (fd = .bool true ∧ a ≤ 41 ∧ ∃ m y, Hid (SimS w.heap.size w wr vm vo (ms ++ [m]) y ∧ firstEasy x = some (m, y))))) (fun _ _ fd i _ => foundOf fd * (42 - (intOf i).toNat))
      case atStart => exact ⟨0, rfl, .inl ⟨rfl, rfl, rfl, by omega, Lib.hid ⟨HS.out, HF.out⟩⟩⟩
      case round =>
        obtain ⟨a, rfl, ⟨rfl, rfl, rfl, ha, HI⟩ | ⟨rfl, ha, m, y, HI⟩⟩ := hrel
        · by_cases hlt : a < x.length
          · have HFA := Lib.hid (HI.out.2.trans (by rw [restE_next x a hlt]))
            have hsz := HI.out.1.1.size
            obtain ⟨w1, hw1⟩ : ∃ w1, w1 = wr.alloc (.cells easyVs 3) := ⟨_, rfl⟩
            have hb1 : Below wr.heap.size wr w1 := by rw [hw1]; exact (Below.refl _ _).alloc (Nat.le_refl _) _
            obtain ⟨gE, hgE⟩ : ∃ gE, gE = wr.heap.size := ⟨_, rfl⟩
            have HKE := Lib.hid (show Blk gE (.cells easyVs 3) w1 by rw [hw1, hgE]; exact Blk.new wr _)
            have HS1 := Lib.hid (HI.out.1.below hsz hb1)
            have HW1 := Lib.hid hw1
            have HG := Lib.hid hgE
            clear hb1 hw1 hgE HI
            go_wp2_with (go_at_call 89; refine (l9Easy_any _).mono ?_; rintro e2 wx2 ⟨rfl, rfl⟩; simp only [← HW1.out, ← HG.out])
            go_loopw [3, 4, 5, 8] (fun vm vo fd i wr => ∃ j : Nat, i = .int .i64 j ∧ ((fd = .bool false ∧ vm = .slice na ms.length nc ∧ vo = .slice oa x.length oc ∧ j ≤ 11 ∧ Hid (SimS w.heap.size w wr vm vo ms x ∧ Blk gE (.cells easyVs 3) wr ∧ firstEasy x = tryMv x ((easyAt a).drop j ++ restE x (a + 1)))) ∨ (fd = .bool true ∧ j ≤ 12 ∧ ∃ m y, Hid (SimS w.heap.size w wr vm vo (ms ++ [m]) y ∧ firstEasy x = some (m, y))))) (fun _ _ fd i _ => foundOf fd * (13 - (intOf i).toNat))
            case atStart => exact ⟨0, rfl, .inl ⟨rfl, rfl, rfl, by omega, Lib.hid ⟨HS1.out, HKE.out, HFA.out⟩⟩⟩
            case round =>
              obtain ⟨j, rfl, ⟨rfl, rfl, rfl, hj, HJ⟩ | ⟨rfl, hj, m, y, HJ⟩⟩ := hrel
              · have HSJ := Lib.hid HJ.out.1
                have hszj := HSJ.out.1.size
                have HEJ := Lib.hid HJ.out.2.1
                by_cases hjl : j < 11
                · have HFJ := Lib.hid (HJ.out.2.2.trans (by rw [easyAt_drop a j hjl]; rfl : _ = tryMv x (⟨((easyN[j]'hjl : Nat) : Int), false, (a : Nat)⟩ :: ((easyAt a).drop (j + 1) ++ restE x (a + 1)))))
                  have hcell : wr.cell? ⟨gE, j, none⟩ = some (.int .i64 ((easyN[j]'hjl : Nat) : Int)) := (HEJ.out.cell j).trans (easyVs_get j hjl)
                  generalize (easyN[j]'hjl) = n at HFJ hcell
                  obtain ⟨w2, hw2⟩ : ∃ w2, w2 = wr.alloc (.cells #[.int .i64 (n : Nat), .bool false, .int .i64 (a : Nat)] 56) := ⟨_, rfl⟩
                  have hb2 : Below wr.heap.size wr w2 := by rw [hw2]; exact (Below.refl _ _).alloc (Nat.le_refl _) _
                  have KM := Lib.hid (show Blk wr.heap.size (.cells #[.int .i64 (n : Nat), .bool false, .int .i64 (a : Nat)] 56) w2 by rw [hw2]; exact Blk.new wr _)
                  have HS2 := Lib.hid (HSJ.out.below hszj hb2)
                  have HE2 := Lib.hid (HEJ.out.below hb2 HEJ.out.lt)
                  have hs2 := HS2.out.1.size
                  have HW2 := Lib.hid hw2
                  have k0 := KM.out.cell 0
                  have k1 := KM.out.cell 1
                  have k2 := KM.out.cell 2
                  clear hb2 hw2 HJ
                  go_wp2_with (rw [← HW2.out])
                  refine (spec_MoveDo _ x ⟨n, false, a⟩ w2 HS2.out.rd hxl).mono ?_
                  rintro e3 w3 ⟨v3, b3, rfl, hb3, rfl, ho3⟩
                  have HB3 := Lib.hid hb3
                  have hs3 := hb3.size
                  have HS3 := Lib.hid (HS2.out.below hs2 hb3)
                  have HE3 := Lib.hid (HE2.out.below hb3 HE2.out.lt)
                  have KM3 := Lib.hid (KM.out.below hb3 KM.out.lt)
                  obtain ⟨ya, yc, rfl, _⟩ := Own.open ho3
                  clear hb3 hcell HSJ HEJ HE2 KM k0 k1 k2
                  cases hmv : moveV x ⟨n, false, a⟩ with
                  | none =>
                    have HN := Lib.hid (HFJ.out.trans (by rw [tryMv, hmv] : _ = tryMv x ((easyAt a).drop (j + 1) ++ restE x (a + 1))))
                    clear hmv ho3
                    simp only [Option.isSome_none]
                    go_wp2
                    go_roundw
                    case rel => exact ⟨j + 1, by go_num, .inl ⟨rfl, rfl, rfl, by omega, Lib.hid ⟨HS3.out, HE3.out, HN.out⟩⟩⟩
                    case measure => simp [intOf, foundOf]; omega
                  | some y =>
                    rw [hmv] at ho3
                    have HN := Lib.hid (HFJ.out.trans (by rw [tryMv, hmv] : _ = some ((⟨n, false, a⟩ : Mv), y)))
                    have HO3 := Lib.hid (show OwnI w2.heap.size w3.heap.size 3 w3 (.slice ya y.length yc) y from ho3)
                    have m0 := KM3.out.cell 0
                    have m1 := KM3.out.cell 1
                    have m2 := KM3.out.cell 2
                    have HOM := Lib.hid (show Own 3 w.heap.size w3.heap.size 56 w3 (.slice na ms.length nc) ms.length (mvs ms) from HS3.out.2.1)
                    clear hmv ho3
                    simp only [Option.isSome_some, Option.getD_some]
                    go_wp2_with (at_builtin; go_loud (refine wpList_app_lit_at w3 rfl _ _ 36 rfl 56 (.agg #[.int .i64 0, .bool false, .int .i64 0]) 3 24 Tryz.underlying36 info_mv rfl (by decide) (by decide) rfl HOM.out 1 (encMv ⟨n, false, a⟩) rfl rfl (encMv_one _) rfl (by omega) (by omega) ?_))
                    intro v5 w5 ho5 hg5 hl5 _
                    have HS5 := Lib.hid (SimS.step (m := ⟨n, false, a⟩) HS2.out (by omega) HB3.out HO3.out ho5 hg5 hl5)
                    obtain ⟨za, zc, rfl, _⟩ := Own.open ho5
                    clear ho5 hg5 hl5 m0 m1 m2
                    go_wp2
                    go_roundw
                    case rel => exact ⟨j + 1, by go_num, .inr ⟨rfl, by omega, ⟨n, false, a⟩, y, Lib.hid ⟨HS5.out, HN.out⟩⟩⟩
                    case measure => simp [intOf, foundOf]; omega
                · obtain rfl : j = 11 := by omega
                  have HN := Lib.hid HJ.out.2.2
                  rw [show (easyAt a).drop 11 = [] from rfl, List.nil_append] at HN
                  clear HJ HEJ
                  go_wp2
                  go_roundw
                  case rel => exact ⟨a + 1, by go_num, .inl ⟨rfl, rfl, rfl, by omega, Lib.hid ⟨HSJ.out, HN.out⟩⟩⟩
                  case measure => simp [intOf, foundOf]; omega
              · obtain ⟨pa, pn, pc, rfl⟩ := Own.form HJ.out.1.2.1
                obtain ⟨qa, qc, rfl, _⟩ := HJ.out.1.rd.open
                by_cases hjl : j < 11
                · go_wp2
                  go_roundw
                  case rel => exact ⟨a + 1, by go_num, .inr ⟨rfl, by omega, m, y, HJ⟩⟩
                  case measure => simp [intOf, foundOf]; omega
                · go_wp2
                  go_roundw
                  case rel => exact ⟨a + 1, by go_num, .inr ⟨rfl, by omega, m, y, HJ⟩⟩
                  case measure => simp [intOf, foundOf]; omega
          · obtain rfl : a = x.length := by omega
            have HN := Lib.hid HI.out.2
            rw [restE_end x _ (Nat.le_refl _)] at HN
            have hsn := simpM_none (show firstEasy x = none from HN.out)
            have HFIN := Lib.hid (show simpBy e = ms by rw [simpBy, HKE.out, if_pos rfl, HSM.out, hsn]; simp)
            clear hsn
            go_wp2
            go_ret
            refine RetV.mk _ rfl ⟨HI.out.1.1, ?_⟩
            rw [HFIN.out]
            exact HI.out.1.2.1
        · obtain ⟨pa, pn, pc, rfl⟩ := Own.form HI.out.1.2.1
          obtain ⟨qa, qc, rfl, _⟩ := HI.out.1.rd.open
          obtain ⟨hmv, hbk, hyl, hky⟩ := firstEasy_some HI.out.2
          have hsm := simpM_some HI.out.2
          have HFIN := Lib.hid (show simpM e = ((ms ++ [m]) ++ (simpM y).1, (simpM y).2) by rw [HSM.out, hsm]; simp)
          have HKY := Lib.hid hky
          have hml2 : (ms ++ [m]).length = ms.length + 1 := by simp
          have he40 := (kat_len HKE.out).2
          clear hmv hky hsm hbk
          by_cases hlt : a < y.length
          all_goals (
            go_wp2
            go_roundw
            case rel => exact ⟨ms ++ [m], y, by omega, by omega, Lib.hid ⟨HI.out.1, .inl ⟨HKE.out, HKY.out, by omega, HFIN.out⟩⟩⟩
            case measure => simp [lenOf]; omega)
    · rw [hke]
      have HOUT := Lib.hid (show simpBy x = [] by simp [simpBy, hke])
      clear hke
      go_wp2
      go_ret
      refine RetV.mk _ rfl ⟨HQ.out.1.1.alloc hB _, ?_⟩
      rw [HOUT.out]
      exact Own.wide2 (Own.lit 3 56 _ [] 0 (by omega) rfl) hB (by simp)
end

section

theorem simpBy_len (e : List Int) : (simpBy e).length ≤ 40 := by
  unfold simpBy
  split
  · rename_i h
    have := simpM_bd _ e (Nat.le_refl _)
    have := (kat_len h).2
    omega
  · simp
end
end Go.Proofs.YtadihfjmgckdaaaGreatDoor
