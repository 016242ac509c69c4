/-
  Texts of walks and plain lemmas for this seat; no condition.
-/
import Derived.Test.YtoondakdjhhehaaDoorDCert
import Derived.Test.YtoondakdjhhehaaDoorDIns
import Derived.Test.YtoondakdjhhehaaDoorDWords
import Derived.Deep.RegionHeld3
import Derived.Deep.DeepCutAuto
import Derived.Deep.DrawnRows
import Derived.IntWalk
namespace Go.Proofs.YtoondakdjhhehaaDoor
open Go.RowKit
section
set_option linter.unusedVariables false

theorem SlB.below {lo hi B : Nat} {w w' : World} {v : Value} {xs : List Int} (h : SlB lo hi w v xs) (hb : Below B w w') (hB : hi ≤ B) : SlB lo hi w' v xs := ⟨h.1.below hb hB, h.2⟩
theorem SlB.wide {lo hi hi' : Nat} {w : World} {v : Value} {xs : List Int} (h : SlB lo hi w v xs) (hh : hi ≤ hi') : SlB lo hi' w v xs := ⟨h.1.wide (Nat.le_refl _) hh, h.2⟩
set_option maxRecDepth 100000 in
set_option maxHeartbeats 12800000 in
theorem DrawCodeRun_any (v : Value) (bs : List Int) (w : World) (h : SlB 0 w.heap.size w v bs) :
    Calls Tryd.prog 8 #[v] w (fun e w' => ∃ (M : Mo) (va vc : Value) (cs : List In3) (st : Int), e = .returned (.tuple #[aggMo M va, vc, .int .i64 st]) ∧ ModC w w' M va ∧ SlC w.heap.size w'.heap.size w' vc cs ∧ cs.length ≤ 60 ∧ Below w.heap.size w w') := by
  obtain ⟨w0, hw0⟩ : ∃ w0, w0 = w.alloc (.cells #[.int .i64 0, .int .i64 0, .int .i64 0, .slice none 0 0] 25) := ⟨_, rfl⟩
  obtain ⟨hb0, KS_, hs0⟩ := box_facts2 hw0
  have KS := Lib.hid KS_
  have HX := Lib.hid (SlB.wide (SlB.below h hb0 (Nat.le_refl _)) hb0.size)
  have HW0 := Lib.hid hw0
  have HB0 := Lib.hid hb0
  clear h hb0 KS_ hw0
  go_enter Tryd.func8, Tryd.ntmps8
  go_upto_region 1 with (rw [← HW0.out])
  try rw [← HW0.out]
  clear HW0
  go_wp2_with fail
  refine (l20Open_any _ bs _ HX.out).mono ?_
  rintro e w1 ⟨_, rfl, g, rfl, hg, hb, hr⟩
  have hs1 := hb.size
  have HB := Lib.hid (HB0.out.trans (hb.mono (by omega)))
  replace KS := Lib.hid (KS.out.below hb (by omega))
  have HR := Lib.hid hr
  have hgl1 := hr.lt
  clear hb hr HX HB0
  go_wp2_with fail
  refine (l20Certain_any g 0 _ HR.out (by omega)).mono ?_
  rintro e w2 ⟨_, rfl, ⟨n, p, q, acts⟩, va, rfl, hM, h_, r_⟩
  have hs2 := h_.size
  have hM0 := hM
  obtain ⟨ma, mc, rfl, _, _⟩ := hM0.1.shape
  obtain ⟨_, hn1, hn5⟩ := hM0.2.2
  simp only at hn1 hn5
  obtain ⟨w3, hw3⟩ : ∃ w3, w3 = w2.alloc (.cells #[.int .i64 n, .int .i64 p, .int .i64 q, .slice ma acts.length mc] 25) := ⟨_, rfl⟩
  obtain ⟨hb3, KM_, hs3⟩ := box_facts2 hw3
  replace HB := Lib.hid ((Below.outside HB.out h_ (by omega) (by omega)).trans (hb3.mono (by omega)))
  replace KS := Lib.hid ((KS.out.outside h_ (.inl (by omega))).below hb3 (by omega))
  replace HR := Lib.hid (r_.below hb3 r_.lt)
  have HM : Hid (SlLL w1.heap.size w2.heap.size w3 (.slice ma acts.length mc) acts) := Lib.hid (hM.1.below hb3 (Nat.le_refl _))
  have HM2 := Lib.hid hM.2
  obtain ⟨gM, hgM⟩ : ∃ x, x = w2.heap.size := ⟨_, rfl⟩
  rw [← hgM] at KM_
  have KM := Lib.hid KM_
  have hgM1 : gM < w3.heap.size := KM_.lt
  have hgM2 : w1.heap.size ≤ gM := by omega
  have hgM4 : gM ≤ w2.heap.size := by omega
  have HGM := Lib.hid hgM
  have HW3 := Lib.hid hw3
  have hgl := HR.out.lt
  clear h_ r_ hM hM0 hb3 KM_ hw3 hgM
  go_upto_region 3 with (rw [← HW3.out])
  try rw [← HW3.out]
  rw [← HGM.out]
  clear HW3 HGM
  have hdz : w3.drew.heap.size = w3.heap.size := rfl
  have k0 := KM.out.drew.cell 0
  have k1 := KM.out.drew.cell 1
  have k2 := KM.out.drew.cell 2
  have k3 := KM.out.drew.cell 3
  have e1 : IntKind.i64.wrap (n + 1) = n + 1 := IntWalk.i64_in _ (by omega)
  go_region_held3 (fun w' => w'.cell? ⟨gM, 0, none⟩ = some (.int .i64 n) ∧ w'.cell? ⟨gM, 1, none⟩ = some (.int .i64 p) ∧ w'.cell? ⟨gM, 2, none⟩ = some (.int .i64 q) ∧ w'.cell? ⟨gM, 3, none⟩ = some (.slice ma acts.length mc)) (first | with_reducible assumption | go_keep) (first
    | (go_at_call 37; refine (l20Instructions_any g _ 12 w3.drew HR.out.drew (by omega) (by omega)).mono ?_; rintro e4 w4 ⟨v4, rfl, cs, o_, le_, h_, r_⟩; (have hs4 := h_.size); obtain ⟨ea, ec, rfl, _, _⟩ := Sl.shape o_.sl; (have k_ := Blk.outside KM.out.drew h_ (.inr (by omega))); (have m40 := k_.cell 0); (have m41 := k_.cell 1); (have m42 := k_.cell 2); (have m43 := k_.cell 3); (have K4 := Lib.hid k_); (have O4 := Lib.hid (((Outside.refl g (g + 1) w3).drw).trans h_)); (have R4 := Lib.hid r_); (have s_ := Blk.outside KS.out.drew h_ (.inl (by omega))); (have x40 := s_.cell 0); (have f40 := s_.free 0); (have x41 := s_.cell 1); (have f41 := s_.free 1); (have x42 := s_.cell 2); (have f42 := s_.free 2); (have x43 := s_.cell 3); (have f43 := s_.free 3); (have S4 := Lib.hid s_); clear s_ k_; (have E4 := Lib.hid o_.sl); clear o_ h_ r_)
    | (go_at_call_of 38 (Value.int .i64 30); refine (pick_any g _ 30 _ R5.out (by omega)).mono ?_; rintro e6 w6 ⟨q3, rfl, i6_, h_, r_⟩; obtain ⟨q3a, q3b⟩ := i6_.lt (by omega); (have hs6 := h_.size); (have k_ := Blk.outside K5.out h_ (.inr (by omega))); (have m60 := k_.cell 0); (have m61 := k_.cell 1); (have m62 := k_.cell 2); (have m63 := k_.cell 3); (have K6 := Lib.hid k_); (have O6 := Lib.hid ((O5.out).trans h_)); (have R6 := Lib.hid r_); (have s_ := Blk.outside S5.out h_ (.inl (by omega))); (have x60 := s_.cell 0); (have f60 := s_.free 0); (have x61 := s_.cell 1); (have f61 := s_.free 1); (have x62 := s_.cell 2); (have f62 := s_.free 2); (have x63 := s_.cell 3); (have f63 := s_.free 3); (have S6 := Lib.hid s_); clear s_ k_; (have E6 := Lib.hid (E5.out.outside h_ (.inr (by omega)))); (have z6_ := Blk.outside K6.out (Outside.set4 w.heap.size w6 (.int .i64 n) (.int .i64 p) (.int .i64 q) (.slice ma acts.length mc)) (.inr (by omega))); (have z60 := z6_.cell 0); (have z61 := z6_.cell 1); (have z62 := z6_.cell 2); (have z63 := z6_.cell 3); clear z6_ h_ r_ i6_)
    | (go_at_call 38; refine (pick_any g _ _ _ R4.out (by omega)).mono ?_; rintro e5 w5 ⟨q2, rfl, i5_, h_, r_⟩; obtain ⟨q2a, q2b⟩ := i5_.lt (by omega); (have hs5 := h_.size); (have k_ := Blk.outside K4.out h_ (.inr (by omega))); (have m50 := k_.cell 0); (have m51 := k_.cell 1); (have m52 := k_.cell 2); (have m53 := k_.cell 3); (have K5 := Lib.hid k_); (have O5 := Lib.hid ((O4.out).trans h_)); (have R5 := Lib.hid r_); (have s_ := Blk.outside S4.out h_ (.inl (by omega))); (have x50 := s_.cell 0); (have f50 := s_.free 0); (have x51 := s_.cell 1); (have f51 := s_.free 1); (have x52 := s_.cell 2); (have f52 := s_.free 2); (have x53 := s_.cell 3); (have f53 := s_.free 3); (have S5 := Lib.hid s_); clear s_ k_; (have E5 := Lib.hid (E4.out.outside h_ (.inr (by omega)))); clear h_ r_ i5_))
  all_goals (
    obtain ⟨st, hst⟩ : ∃ st, st = IntKind.i64.wrap (q2 - IntKind.i64.wrap (q3.tdiv 29)) := ⟨_, rfl⟩
    try rw [← hst]
    clear hst
    obtain ⟨wz, hwz⟩ : ∃ wz, wz = ((((w6.setCell ⟨w.heap.size, 0, none⟩ (.int .i64 n)).setCell ⟨w.heap.size, 1, none⟩ (.int .i64 p)).setCell ⟨w.heap.size, 2, none⟩ (.int .i64 q)).setCell ⟨w.heap.size, 3, none⟩ (.slice ma acts.length mc)) := ⟨_, rfl⟩
    have KZ := S6.out.set4 (.int .i64 n) (.int .i64 p) (.int .i64 q) (.slice ma acts.length mc)
    have OZ := Outside.set4 w.heap.size w6 (.int .i64 n) (.int .i64 p) (.int .i64 q) (.slice ma acts.length mc)
    rw [← hwz] at KZ OZ
    have zz0 := KZ.cell 0
    have zz1 := KZ.cell 1
    have zz2 := KZ.cell 2
    have zz3 := KZ.cell 3
    have HZ := Lib.hid OZ
    have hsz := OZ.size
    clear KZ OZ
    go_wp2_with fail
    simp only [← hwz]
    clear hwz
    refine bodyPost_ret (v := .tuple #[.agg #[.int .i64 n, .int .i64 p, .int .i64 q, .slice ma acts.length mc], .slice ea cs.length ec, _]) (by simp [results, Tryd.results8, go_sem, zz0, zz1, zz2, zz3]; rfl) rfl ⟨⟨n, p, q, acts⟩, _, _, cs, _, rfl, ?_, ?_, le_, ?_⟩
    · exact ⟨(((HM.out.outside O6.out (.inr (by omega))).outside HZ.out (.inr (by omega))).wide (by omega) (by have := O6.out.size; omega)), HM2.out⟩
    · exact (E6.out.outside HZ.out (.inr (by omega))).wide (by omega) (by omega)
    · exact Below.outside (Below.outside HB.out O6.out (by omega) HB.out.size) HZ.out (Nat.le_refl _) (Nat.le_trans HB.out.size O6.out.size))

set_option maxHeartbeats 1600000 in
theorem DrawCodeShort_any (v : Value) (bs : List Int) (w : World) (h : SlB 0 w.heap.size w v bs) :
    Calls Tryd.prog 12 #[v] w (RetV fun u w' => ∃ cs : List In3, OwnC w.heap.size w'.heap.size 33 w' u cs ∧ cs.length ≤ 60 ∧ Below w.heap.size w w') := by
  go_enter Tryd.func12, Tryd.ntmps12
  go_wp2_with fail
  refine (l20Open_any _ bs _ h).mono ?_
  rintro e w1 ⟨_, rfl, g, rfl, hg, hb, hr⟩
  have hs1 := hb.size
  have HB := Lib.hid hb
  have HR := Lib.hid hr
  clear hb hr h
  go_wp2_with fail
  refine (l20Instructions_any g 0 9 _ HR.out (by omega) (by omega)).mono ?_
  rintro e w2 ⟨u, rfl, cs, ho, hl, h_, r_⟩
  have HO := Lib.hid (And.intro ho h_)
  clear ho h_ r_
  go_wp2
  go_ret
  exact RetV.mk _ rfl ⟨cs, Own.wide2 HO.out.1 hs1 (Nat.le_refl _), hl, Below.outside HB.out HO.out.2 hg hs1⟩
end

section
set_option linter.unusedVariables false

set_option maxRecDepth 100000 in
set_option maxHeartbeats 12800000 in
theorem DrawProgEnds_any (v : Value) (bs : List Int) (w : World) (h : SlB 0 w.heap.size w v bs) :
    Calls Tryd.prog 29 #[v] w (fun e w' => ∃ (M : Mo) (va vc : Value) (cs : List Int) (st : Int), e = .returned (.tuple #[aggMo M va, vc, .int .i64 st]) ∧ ModC w w' M va ∧ SlI w.heap.size w'.heap.size w' vc cs ∧ cs.length ≤ 60 ∧ Below w.heap.size w w') := by
  obtain ⟨w0, hw0⟩ : ∃ w0, w0 = w.alloc (.cells #[.int .i64 0, .int .i64 0, .int .i64 0, .slice none 0 0] 25) := ⟨_, rfl⟩
  obtain ⟨hb0, KS_, hs0⟩ := box_facts2 hw0
  have KS := Lib.hid KS_
  have HX := Lib.hid (SlB.wide (SlB.below h hb0 (Nat.le_refl _)) hb0.size)
  have HW0 := Lib.hid hw0
  have HB0 := Lib.hid hb0
  clear h hb0 KS_ hw0
  go_enter Tryd.func29, Tryd.ntmps29
  go_upto_region 1 with (rw [← HW0.out])
  try rw [← HW0.out]
  clear HW0
  go_wp2_with fail
  refine (l20Open_any _ bs _ HX.out).mono ?_
  rintro e w1 ⟨_, rfl, g, rfl, hg, hb, hr⟩
  have hs1 := hb.size
  have HB := Lib.hid (HB0.out.trans (hb.mono (by omega)))
  replace KS := Lib.hid (KS.out.below hb (by omega))
  have HR := Lib.hid hr
  have hgl1 := hr.lt
  clear hb hr HX HB0
  go_wp2_with fail
  refine (l20Certain_any g 0 _ HR.out (by omega)).mono ?_
  rintro e w2 ⟨_, rfl, ⟨n, p, q, acts⟩, va, rfl, hM, h_, r_⟩
  have hs2 := h_.size
  have hM0 := hM
  obtain ⟨ma, mc, rfl, _, _⟩ := hM0.1.shape
  obtain ⟨_, hn1, hn5⟩ := hM0.2.2
  simp only at hn1 hn5
  obtain ⟨w3, hw3⟩ : ∃ w3, w3 = w2.alloc (.cells #[.int .i64 n, .int .i64 p, .int .i64 q, .slice ma acts.length mc] 25) := ⟨_, rfl⟩
  obtain ⟨hb3, KM_, hs3⟩ := box_facts2 hw3
  replace HB := Lib.hid ((Below.outside HB.out h_ (by omega) (by omega)).trans (hb3.mono (by omega)))
  replace KS := Lib.hid ((KS.out.outside h_ (.inl (by omega))).below hb3 (by omega))
  replace HR := Lib.hid (r_.below hb3 r_.lt)
  have HM : Hid (SlLL w1.heap.size w2.heap.size w3 (.slice ma acts.length mc) acts) := Lib.hid (hM.1.below hb3 (Nat.le_refl _))
  have HM2 := Lib.hid hM.2
  obtain ⟨gM, hgM⟩ : ∃ x, x = w2.heap.size := ⟨_, rfl⟩
  rw [← hgM] at KM_
  have KM := Lib.hid KM_
  have hgM1 : gM < w3.heap.size := KM_.lt
  have hgM2 : w1.heap.size ≤ gM := by omega
  have hgM4 : gM ≤ w2.heap.size := by omega
  have HGM := Lib.hid hgM
  have HW3 := Lib.hid hw3
  have hgl := HR.out.lt
  clear h_ r_ hM hM0 hb3 KM_ hw3 hgM
  go_upto_region 3 with (rw [← HW3.out])
  try rw [← HW3.out]
  rw [← HGM.out]
  clear HW3 HGM
  have hdz : w3.drew.heap.size = w3.heap.size := rfl
  have k0 := KM.out.drew.cell 0
  have k1 := KM.out.drew.cell 1
  have k2 := KM.out.drew.cell 2
  have k3 := KM.out.drew.cell 3
  have e1 : IntKind.i64.wrap (n + 1) = n + 1 := IntWalk.i64_in _ (by omega)
  go_region_held3 (fun w' => w'.cell? ⟨gM, 0, none⟩ = some (.int .i64 n) ∧ w'.cell? ⟨gM, 1, none⟩ = some (.int .i64 p) ∧ w'.cell? ⟨gM, 2, none⟩ = some (.int .i64 q) ∧ w'.cell? ⟨gM, 3, none⟩ = some (.slice ma acts.length mc)) (first | with_reducible assumption | go_keep) (first
    | (go_at_call 60; refine (l20Words_any g _ 12 w3.drew HR.out.drew (by omega) (by omega)).mono ?_; rintro e4 w4 ⟨v4, rfl, cs, o_, le_, gw_, h_, r_⟩; (have hs4 := h_.size); obtain ⟨ea, ec, rfl, _, _⟩ := Sl.shape o_.sl; (have k_ := Blk.outside KM.out.drew h_ (.inr (by omega))); (have m40 := k_.cell 0); (have m41 := k_.cell 1); (have m42 := k_.cell 2); (have m43 := k_.cell 3); (have K4 := Lib.hid k_); (have O4 := Lib.hid (((Outside.refl g (g + 1) w3).drw).trans h_)); (have R4 := Lib.hid r_); (have s_ := Blk.outside KS.out.drew h_ (.inl (by omega))); (have x40 := s_.cell 0); (have f40 := s_.free 0); (have x41 := s_.cell 1); (have f41 := s_.free 1); (have x42 := s_.cell 2); (have f42 := s_.free 2); (have x43 := s_.cell 3); (have f43 := s_.free 3); (have S4 := Lib.hid s_); clear s_ k_; (have E4 := Lib.hid o_.sl); clear o_ h_ r_ gw_)
    | (go_at_call_of 38 (Value.int .i64 30); refine (pick_any g _ 30 _ R5.out (by omega)).mono ?_; rintro e6 w6 ⟨q3, rfl, i6_, h_, r_⟩; obtain ⟨q3a, q3b⟩ := i6_.lt (by omega); (have hs6 := h_.size); (have k_ := Blk.outside K5.out h_ (.inr (by omega))); (have m60 := k_.cell 0); (have m61 := k_.cell 1); (have m62 := k_.cell 2); (have m63 := k_.cell 3); (have K6 := Lib.hid k_); (have O6 := Lib.hid ((O5.out).trans h_)); (have R6 := Lib.hid r_); (have s_ := Blk.outside S5.out h_ (.inl (by omega))); (have x60 := s_.cell 0); (have f60 := s_.free 0); (have x61 := s_.cell 1); (have f61 := s_.free 1); (have x62 := s_.cell 2); (have f62 := s_.free 2); (have x63 := s_.cell 3); (have f63 := s_.free 3); (have S6 := Lib.hid s_); clear s_ k_; (have E6 := Lib.hid (E5.out.outside h_ (.inr (by omega)))); (have z6_ := Blk.outside K6.out (Outside.set4 w.heap.size w6 (.int .i64 n) (.int .i64 p) (.int .i64 q) (.slice ma acts.length mc)) (.inr (by omega))); (have z60 := z6_.cell 0); (have z61 := z6_.cell 1); (have z62 := z6_.cell 2); (have z63 := z6_.cell 3); clear z6_ h_ r_ i6_)
    | (go_at_call 38; refine (pick_any g _ _ _ R4.out (by omega)).mono ?_; rintro e5 w5 ⟨q2, rfl, i5_, h_, r_⟩; obtain ⟨q2a, q2b⟩ := i5_.lt (by omega); (have hs5 := h_.size); (have k_ := Blk.outside K4.out h_ (.inr (by omega))); (have m50 := k_.cell 0); (have m51 := k_.cell 1); (have m52 := k_.cell 2); (have m53 := k_.cell 3); (have K5 := Lib.hid k_); (have O5 := Lib.hid ((O4.out).trans h_)); (have R5 := Lib.hid r_); (have s_ := Blk.outside S4.out h_ (.inl (by omega))); (have x50 := s_.cell 0); (have f50 := s_.free 0); (have x51 := s_.cell 1); (have f51 := s_.free 1); (have x52 := s_.cell 2); (have f52 := s_.free 2); (have x53 := s_.cell 3); (have f53 := s_.free 3); (have S5 := Lib.hid s_); clear s_ k_; (have E5 := Lib.hid (E4.out.outside h_ (.inr (by omega)))); clear h_ r_ i5_))
  all_goals (
    obtain ⟨st, hst⟩ : ∃ st, st = IntKind.i64.wrap (q2 - IntKind.i64.wrap (q3.tdiv 29)) := ⟨_, rfl⟩
    try rw [← hst]
    clear hst
    obtain ⟨wz, hwz⟩ : ∃ wz, wz = ((((w6.setCell ⟨w.heap.size, 0, none⟩ (.int .i64 n)).setCell ⟨w.heap.size, 1, none⟩ (.int .i64 p)).setCell ⟨w.heap.size, 2, none⟩ (.int .i64 q)).setCell ⟨w.heap.size, 3, none⟩ (.slice ma acts.length mc)) := ⟨_, rfl⟩
    have KZ := S6.out.set4 (.int .i64 n) (.int .i64 p) (.int .i64 q) (.slice ma acts.length mc)
    have OZ := Outside.set4 w.heap.size w6 (.int .i64 n) (.int .i64 p) (.int .i64 q) (.slice ma acts.length mc)
    rw [← hwz] at KZ OZ
    have zz0 := KZ.cell 0
    have zz1 := KZ.cell 1
    have zz2 := KZ.cell 2
    have zz3 := KZ.cell 3
    have HZ := Lib.hid OZ
    have hsz := OZ.size
    clear KZ OZ
    go_wp2_with fail
    simp only [← hwz]
    clear hwz
    refine bodyPost_ret (v := .tuple #[.agg #[.int .i64 n, .int .i64 p, .int .i64 q, .slice ma acts.length mc], .slice ea cs.length ec, _]) (by simp [results, Tryd.results29, go_sem, zz0, zz1, zz2, zz3]; rfl) rfl ⟨⟨n, p, q, acts⟩, _, _, cs, _, rfl, ?_, ?_, le_, ?_⟩
    · exact ⟨(((HM.out.outside O6.out (.inr (by omega))).outside HZ.out (.inr (by omega))).wide (by omega) (by have := O6.out.size; omega)), HM2.out⟩
    · exact (E6.out.outside HZ.out (.inr (by omega))).wide (by omega) (by omega)
    · exact Below.outside (Below.outside HB.out O6.out (by omega) HB.out.size) HZ.out (Nat.le_refl _) (Nat.le_trans HB.out.size O6.out.size))

set_option maxHeartbeats 1600000 in
theorem DrawProgCode_any (v : Value) (bs : List Int) (w : World) (h : SlB 0 w.heap.size w v bs) :
    Calls Tryd.prog 26 #[v] w (RetV fun u w' => ∃ cs : List Int, OwnI w.heap.size w'.heap.size 3 w' u cs ∧ cs.length ≤ 60 ∧ Below w.heap.size w w') := by
  go_enter Tryd.func26, Tryd.ntmps26
  go_wp2_with fail
  refine (l20Open_any _ bs _ h).mono ?_
  rintro e w1 ⟨_, rfl, g, rfl, hg, hb, hr⟩
  have hs1 := hb.size
  have HB := Lib.hid hb
  have HR := Lib.hid hr
  clear hb hr h
  go_wp2_with fail
  refine (l20Words_any g 0 9 _ HR.out (by omega) (by omega)).mono ?_
  rintro e w2 ⟨u, rfl, cs, ho, hl, _, h_, r_⟩
  have HO := Lib.hid (And.intro ho h_)
  clear ho h_ r_
  go_wp2
  go_ret
  exact RetV.mk _ rfl ⟨cs, Own.wide2 HO.out.1 hs1 (Nat.le_refl _), hl, Below.outside HB.out HO.out.2 hg hs1⟩

end
end Go.Proofs.YtoondakdjhhehaaDoor
