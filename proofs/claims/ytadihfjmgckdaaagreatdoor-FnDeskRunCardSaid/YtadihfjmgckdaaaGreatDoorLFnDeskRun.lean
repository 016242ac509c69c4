/-
  Texts of walks and plain lemmas for this seat; no condition.
-/
import Derived.Test.YtadihfjmgckdaaaGreatDoorDDeskRun
import Derived.Test.YtadihfjmgckdaaaGreatDoorLawQ
import Derived.Test.YtadihfjmgckdaaaGreatDoorIRunD
import Derived.Test.YtadihfjmgckdaaaGreatDoorSRunD
import Derived.Test.YtadihfjmgckdaaaGreatDoorGN
import Derived.Test.YtadihfjmgckdaaaGreatDoorGQ
import Derived.Deep.RegionLaw
import Derived.Deep.RegionHeld3
import Derived.Deep.DeepCutAuto
import Derived.Deep.DrawnRows
namespace Go.Proofs.YtadihfjmgckdaaaGreatDoor
open Go.RowKit
set_option linter.unusedVariables false

/-- A desk in new memory, in a box. -/
def LayD (w0 : World) (R : Dsk) (gA : Nat) (wx : World) : Prop := ∃ a b c d : Value, Blk gA (.cells #[a, b, c, d] 38) wx ∧ DeskAt 0 wx.heap.size wx a b c d R ∧ w0.heap.size ≤ gA ∧ Below w0.heap.size w0 wx
theorem lay1 {w0 w2 : World} {a b c d : Value} {R : Dsk} (o : DeskOwn w0.heap.size w2.heap.size w2 a b c d R) (h : Below w0.heap.size w0 w2) : LayD w0 R w2.heap.size (w2.alloc (.cells #[a, b, c, d] 38)) :=
  ⟨a, b, c, d, Blk.new w2 _, ((o.at.below (al_below _ _) (Nat.le_refl _)).wide (Nat.zero_le _) (by simp)), h.size, h.trans ((al_below _ _).mono h.size)⟩
theorem lay2 {w0 w2 : World} {a b c d : Value} {R : Dsk} (o : DeskOwn (w0.alloc (.cells #[.slice none 0 0, .slice none 0 0, .slice none 0 0, .slice none 0 0] 38)).heap.size w2.heap.size w2 a b c d R) (h : Below (w0.alloc (.cells #[.slice none 0 0, .slice none 0 0, .slice none 0 0, .slice none 0 0] 38)).heap.size (w0.alloc (.cells #[.slice none 0 0, .slice none 0 0, .slice none 0 0, .slice none 0 0] 38)) w2) :
    LayD w0 R w0.heap.size ((((w2.setCell ⟨w0.heap.size, 0, none⟩ a).setCell ⟨w0.heap.size, 1, none⟩ b).setCell ⟨w0.heap.size, 2, none⟩ c).setCell ⟨w0.heap.size, 3, none⟩ d) := by
  have K := (Blk.new w0 (.cells #[.slice none 0 0, .slice none 0 0, .slice none 0 0, .slice none 0 0] 38)).below h (by simp)
  have O := Outside.set4 w0.heap.size w2 a b c d
  have hs := h.size
  rw [alloc_size] at hs
  refine ⟨a, b, c, d, K.set4 a b c d, ((o.at.outside O (.inr (by simp))).wide (Nat.zero_le _) O.size), Nat.le_refl _, ?_⟩
  exact Below.outside ((al_below w0 _).trans (h.mono (by simp))) O (Nat.le_refl _) (by omega)
theorem acs_app (a b : List Ac) : acs (a ++ b) = acs a ++ acs b := by simp [acs]
theorem lay4 {w0 w2 : World} {a b c d : Value} {R : Dsk} (o : DeskOwn ((w0.alloc (.cells #[.slice none 0 0, .slice none 0 0, .slice none 0 0, .slice none 0 0] 38)).drew).heap.size w2.heap.size w2 a b c d R) (h : Below ((w0.alloc (.cells #[.slice none 0 0, .slice none 0 0, .slice none 0 0, .slice none 0 0] 38)).drew).heap.size ((w0.alloc (.cells #[.slice none 0 0, .slice none 0 0, .slice none 0 0, .slice none 0 0] 38)).drew) w2) :
    LayD w0.drew R w0.heap.size ((((w2.setCell ⟨w0.heap.size, 0, none⟩ a).setCell ⟨w0.heap.size, 1, none⟩ b).setCell ⟨w0.heap.size, 2, none⟩ c).setCell ⟨w0.heap.size, 3, none⟩ d) :=
  lay2 (w0 := w0.drew) o ⟨h.os, h.tape, h.output, h.size, h.block⟩
theorem lay3 {w0 w2 : World} {a b c d : Value} {R : Dsk} (o : DeskOwn w0.heap.size w2.heap.size w2 a b c d R) (h : Below w0.heap.size w0 w2) : LayD w0 R w2.heap.size (((((w2.alloc (.cells #[.slice none 0 0, .slice none 0 0, .slice none 0 0, .slice none 0 0] 38)).setCell ⟨w2.heap.size, 0, none⟩ a).setCell ⟨w2.heap.size, 1, none⟩ b).setCell ⟨w2.heap.size, 2, none⟩ c).setCell ⟨w2.heap.size, 3, none⟩ d) := by
  have O := Outside.set4 w2.heap.size (w2.alloc (.cells #[.slice none 0 0, .slice none 0 0, .slice none 0 0, .slice none 0 0] 38)) a b c d
  have hz : (w2.alloc (.cells #[.slice none 0 0, .slice none 0 0, .slice none 0 0, .slice none 0 0] 38)).heap.size = w2.heap.size + 1 := alloc_size _ _
  refine ⟨a, b, c, d, (Blk.new w2 _).set4 a b c d, (((o.at.below (al_below _ _) (Nat.le_refl _)).outside O (.inl (Nat.le_refl _))).wide (Nat.zero_le _) ?_), h.size, ?_⟩
  · have := O.size; omega
  · exact Below.outside (h.trans ((al_below _ _).mono h.size)) O h.size (by have := h.size; omega)
theorem SlA.frontA {lo hi n cap : Nat} {w : World} {a : Option Addr} {xs : List Ac} (h : SlA lo hi w (.slice a n cap) xs) (k : Nat) (hk : k ≤ xs.length) : SlA lo hi w (.slice a k cap) (xs.take k) := by
  obtain ⟨a', cap', e, h1, h2, h3, h4, h5⟩ := h
  injection e with e1 e2 e3
  subst e1 e2 e3
  have hl : (xs.take k).length = k := by simp; omega
  have hxs : acs xs = acs (xs.take k) ++ acs (xs.drop k) := by rw [← acs_app, List.take_append_drop]
  have htl : (acs (xs.take k)).length = k * 5 := by rw [acs_length, hl]
  refine ⟨_, _, by rw [hl], by rw [hl]; omega, by omega, acs_length _, h4, fun i hi' => ?_⟩
  rw [htl] at hi'
  obtain ⟨b, off, f1, f2, f3, f4, f5⟩ := h5 i (by rw [acs_length]; omega)
  exact ⟨b, off, f1, f2, f3, f4, by rw [f5, hxs, List.getElem?_append_left (by omega)]⟩
theorem SlA.dropA {lo hi n cap b off : Nat} {w : World} {xs : List Ac} (h : SlA lo hi w (.slice (some ⟨b, off, none⟩) n cap) xs) (k : Nat) (hk : k ≤ xs.length) : SlA lo hi w (.slice (some ⟨b, off + k * 5, none⟩) (xs.length - k) (cap - k)) (xs.drop k) := by
  obtain ⟨a', cap', e, h1, h2, h3, h4, h5⟩ := h
  injection e with e1 e2 e3
  subst e1 e2 e3
  have hl : (xs.drop k).length = xs.length - k := by simp
  have hxs : acs xs = acs (xs.take k) ++ acs (xs.drop k) := by rw [← acs_app, List.take_append_drop]
  have htl : (acs (xs.take k)).length = k * 5 := by rw [acs_length]; simp; omega
  refine ⟨_, _, by rw [hl], by rw [hl]; omega, by omega, acs_length _, (by intro h; cases h), fun i hi' => ?_⟩
  rw [acs_length, hl] at hi'
  have hml := acs_length xs
  obtain ⟨b', off', f1, f2, f3, f4, f5⟩ := h5 (k * 5 + i) (by omega)
  injection f1 with f1
  injection f1 with f1 f1'
  subst f1 f1'
  refine ⟨b, off + k * 5, rfl, f2, f3, f4, ?_⟩
  rw [show off + k * 5 + i = off + (k * 5 + i) by omega, f5, hxs, List.getElem?_append_right (by omega), htl]
  congr 1
  omega
theorem SlA.empty (lo hi : Nat) (w : World) (a : Option Addr) (cap : Nat) (h : cap ≤ maxLen) (h2 : a = none → cap = 0) : SlA lo hi w (.slice a 0 cap) [] :=
  ⟨a, cap, rfl, Nat.zero_le _, h, rfl, h2, fun i hi => by simp [acs] at hi⟩
theorem dsk_own {lo hi : Nat} {w : World} {a b c d : Value} {X A : Dsk} {l : List Ac} {p : Int} (o : DeskOwn lo hi w a b c d (deskRun X l).1) (h : deskRun X l = (A, p)) : DeskOwn lo hi w a b c d A := by rw [h] at o; exact o
theorem runA_size {D : Dsk} (h : deskV D = true) (l : List Ac) : (runA D l).1.size ≤ 180 := deskV_size (runA_valid h l)
theorem deskRun_valid {D : Dsk} {l : List Ac} (h : deskV D = true) (hl : l.length ≤ 40) : deskRun D l = runA D l := by rw [deskRun, if_pos ⟨h, hl⟩]
theorem deskRun_bad {D : Dsk} {l : List Ac} (h : ¬ (deskV D = true ∧ l.length ≤ 40)) : deskRun D l = (Dsk.none, 0) := by rw [deskRun, if_neg h]
theorem deskRun_size (D : Dsk) (l : List Ac) : (deskRun D l).1.size ≤ 180 := by
  by_cases h : deskV D = true ∧ l.length ≤ 40
  · rw [deskRun, if_pos h]; exact runA_size h.1 l
  · rw [deskRun_bad h]; decide

set_option maxRecDepth 100000 in
set_option maxHeartbeats 12800000 in
theorem law_FnDeskRun (v : Value) (cs : List Int) (vb : Value) (ds : List Int) (w : World) (hx : SlB 0 w.heap.size w v cs) (hy : SlB 0 w.heap.size w vb ds) (hE : EnvK w) :
    Calls Tryz.prog 4 #[v, vb] w fun e w' => e = .returned (.bool true) ∧ Below w.heap.size w w' := by
  have HX := Lib.hid hx
  have HD := Lib.hid hy
  have HE := Lib.hid hE
  obtain ⟨⟨a, cap, rfl, hcap, hcm, _⟩, _⟩ := hx
  obtain ⟨⟨b, cap2, rfl, hcap2, hcm2, _⟩, _⟩ := hy
  unfold maxLen at hcm hcm2
  clear hE
  by_cases hm : cs.length ≤ 1048576
  · by_cases hm2 : ds.length ≤ 1048576
    · go_enter Tryz.func4, Tryz.ntmps4
      go_wp2_with fail
      refine (DrawDeskRun_any _ cs _ HX.out).mono ?_
      rintro e w1 ⟨e0, e1, e2, e3, vl, D, L, rfl, hb, hd, hs, hl, hll⟩
      have hs1 := hb.size
      have HB := Lib.hid hb
      have OD := Lib.hid hd
      have SA := Lib.hid hl
      replace HD := Lib.hid (SlB.wide (SlB.below HD.out hb (Nat.le_refl _)) hb.size)
      obtain ⟨p0, p1, p2, p3, p4, p5, p6, p7, rfl, rfl, rfl, rfl, _⟩ := hd.shapes
      obtain ⟨la, lc, rfl, hlc, hlm⟩ := hl.shape
      unfold maxLen at hlm
      clear hb hd hl HX
      have hRs := deskRun_size D L
      obtain ⟨R, n, hR⟩ : ∃ R n, deskRun D L = (R, n) := ⟨_, _, rfl⟩
      rw [hR] at hRs
      replace hRs : R.size ≤ 1048576 := Nat.le_trans hRs (by omega)
      have HR := Lib.hid hR
      clear hR
      have hnn : (n != n) = false := by simp
      obtain ⟨gd, hg_gd⟩ : ∃ g_, g_ = w1.heap.size := ⟨_, rfl⟩
      go_wp2_with fail
      obtain ⟨w2, hw_⟩ : ∃ w_, w_ = w1.alloc (.cells #[(.slice p0 D.first.length p1), (.slice p2 D.goal.length p3), (.slice p4 D.made.length p5), (.slice p6 D.now.length p7)] 38) := ⟨_, rfl⟩
      obtain ⟨h_, K_, hs2⟩ := box_facts2 hw_
      simp only [← hw_, ← hg_gd]
      clear hw_
      replace HD := Lib.hid (HD.out.below h_ (by omega)); replace OD := Lib.hid (OD.out.below h_ (by omega)); replace SA := Lib.hid (SA.out.below h_ (by omega))
      replace HB := Lib.hid (HB.out.trans (h_.mono (by omega)))
      rw [← hg_gd] at K_
      have KD := Lib.hid K_
      have hl_gd : gd < w2.heap.size := by omega
      clear h_ K_ hg_gd
      skip
      refine (impl_DeskRun _ _ _ _ _ _ _ _ _ D L _ (HE.out.below HB.out) OD.out (by omega) (by omega) SA.out (by omega)).mono ?_
      rintro e w3 ⟨d0, d1, d2, d3, nn, rfl, o_, hn_, h_⟩
      have hs3 := h_.size
      replace HD := Lib.hid (HD.out.below h_ (by omega)); replace OD := Lib.hid (OD.out.below h_ (by omega)); replace SA := Lib.hid (SA.out.below h_ (by omega)); replace KD := Lib.hid (KD.out.below h_ (by omega))
      replace HB := Lib.hid (HB.out.trans (h_.mono (by omega)))
      subst hn_
      rw [HR.out] at o_
      rw [HR.out]
      have OX := Lib.hid o_.at
      clear o_
      clear h_
      obtain ⟨x0, x1, x2, x3, x4, x5, x6, x7, rfl, rfl, rfl, rfl, _⟩ := OX.out.shapes
      obtain ⟨gx, hg_gx⟩ : ∃ g_, g_ = w3.heap.size := ⟨_, rfl⟩
      have hlt_KD : gd < w3.heap.size := by omega
      have c_KD_0 := KD.out.cell 0
      have c_KD_1 := KD.out.cell 1
      have c_KD_2 := KD.out.cell 2
      have c_KD_3 := KD.out.cell 3
      go_wp2_with fail
      obtain ⟨w4, hw_⟩ : ∃ w_, w_ = w3.alloc (.cells #[(.slice x0 R.first.length x1), (.slice x2 R.goal.length x3), (.slice x4 R.made.length x5), (.slice x6 R.now.length x7)] 38) := ⟨_, rfl⟩
      obtain ⟨h_, K_, hs4⟩ := box_facts2 hw_
      simp only [← hw_, ← hg_gx]
      clear hw_
      clear c_KD_0 c_KD_1 c_KD_2 c_KD_3
      replace HD := Lib.hid (HD.out.below h_ (by omega)); replace OD := Lib.hid (OD.out.below h_ (by omega)); replace SA := Lib.hid (SA.out.below h_ (by omega)); replace KD := Lib.hid (KD.out.below h_ (by omega)); replace OX := Lib.hid (OX.out.below h_ (by omega))
      replace HB := Lib.hid (HB.out.trans (h_.mono (by omega)))
      rw [← hg_gx] at K_
      have KX := Lib.hid K_
      have hl_gx : gx < w4.heap.size := by omega
      clear h_ K_ hg_gx
      skip
      refine (spec_DeskRun _ _ _ _ _ _ _ _ _ D L _ OD.out (by omega) (by omega) SA.out (by omega)).mono ?_
      rintro e w5 ⟨d0, d1, d2, d3, nn, rfl, o_, hn_, h_⟩
      have hs5 := h_.size
      replace HD := Lib.hid (HD.out.below h_ (by omega)); replace OD := Lib.hid (OD.out.below h_ (by omega)); replace SA := Lib.hid (SA.out.below h_ (by omega)); replace KD := Lib.hid (KD.out.below h_ (by omega)); replace OX := Lib.hid (OX.out.below h_ (by omega)); replace KX := Lib.hid (KX.out.below h_ (by omega))
      replace HB := Lib.hid (HB.out.trans (h_.mono (by omega)))
      subst hn_
      rw [HR.out] at o_
      rw [HR.out]
      have OY := Lib.hid o_.at
      clear o_
      clear h_
      obtain ⟨y0, y1, y2, y3, y4, y5, y6, y7, rfl, rfl, rfl, rfl, _⟩ := OY.out.shapes
      obtain ⟨gy, hg_gy⟩ : ∃ g_, g_ = w5.heap.size := ⟨_, rfl⟩
      have hlt_KX : gx < w5.heap.size := by omega
      have c_KX_0 := KX.out.cell 0
      have c_KX_1 := KX.out.cell 1
      have c_KX_2 := KX.out.cell 2
      have c_KX_3 := KX.out.cell 3
      go_wp2_with fail
      obtain ⟨w6, hw_⟩ : ∃ w_, w_ = w5.alloc (.cells #[(.slice y0 R.first.length y1), (.slice y2 R.goal.length y3), (.slice y4 R.made.length y5), (.slice y6 R.now.length y7)] 38) := ⟨_, rfl⟩
      obtain ⟨h_, K_, hs6⟩ := box_facts2 hw_
      simp only [← hw_, ← hg_gy]
      clear hw_
      clear c_KX_0 c_KX_1 c_KX_2 c_KX_3
      replace HD := Lib.hid (HD.out.below h_ (by omega)); replace OD := Lib.hid (OD.out.below h_ (by omega)); replace SA := Lib.hid (SA.out.below h_ (by omega)); replace KD := Lib.hid (KD.out.below h_ (by omega)); replace OX := Lib.hid (OX.out.below h_ (by omega)); replace KX := Lib.hid (KX.out.below h_ (by omega)); replace OY := Lib.hid (OY.out.below h_ (by omega))
      replace HB := Lib.hid (HB.out.trans (h_.mono (by omega)))
      rw [← hg_gy] at K_
      have KY := Lib.hid K_
      have hl_gy : gy < w6.heap.size := by omega
      clear h_ K_ hg_gy
      skip
      refine (sameDesk_eq _ _ _ _ _ _ _ _ _ _ _ _ R _ OX.out OY.out (by omega) (by omega) hRs).mono ?_
      rintro e w7 ⟨rfl, h_⟩
      have hs7 := h_.size
      replace HD := Lib.hid (HD.out.below h_ (by omega)); replace OD := Lib.hid (OD.out.below h_ (by omega)); replace SA := Lib.hid (SA.out.below h_ (by omega)); replace KD := Lib.hid (KD.out.below h_ (by omega)); replace OX := Lib.hid (OX.out.below h_ (by omega)); replace KX := Lib.hid (KX.out.below h_ (by omega))
      replace HB := Lib.hid (HB.out.trans (h_.mono (by omega)))
      clear h_
      clear KY
      clear OY
      have c_KD_0 := KD.out.cell 0
      have c_KD_1 := KD.out.cell 1
      have c_KD_2 := KD.out.cell 2
      have c_KD_3 := KD.out.cell 3
      go_wp2_with fail
      clear c_KD_0 c_KD_1 c_KD_2 c_KD_3
      refine (spec_DeskValid _ _ _ _ _ _ D _ OD.out (by omega) (by omega)).mono ?_
      rintro e w8 ⟨rfl, h_⟩
      have hs8 := h_.size
      replace HD := Lib.hid (HD.out.below h_ (by omega)); replace OD := Lib.hid (OD.out.below h_ (by omega)); replace SA := Lib.hid (SA.out.below h_ (by omega)); replace KD := Lib.hid (KD.out.below h_ (by omega)); replace OX := Lib.hid (OX.out.below h_ (by omega)); replace KX := Lib.hid (KX.out.below h_ (by omega))
      replace HB := Lib.hid (HB.out.trans (h_.mono (by omega)))
      clear h_
      by_cases hv : deskV D = true ∧ L.length ≤ 40
      · obtain ⟨hv1, hv2⟩ := hv
        rw [hv1]
        have hv3 : ¬ (40 : Int) < (L.length : Int) := by omega
        obtain ⟨h, hh, hh1, hh2⟩ : ∃ h : Nat, h = L.length / 2 ∧ h ≤ L.length ∧ (L.length : Int) / 2 = (h : Int) := ⟨_, rfl, by omega, by omega⟩
        have hrun : deskRun D L = runA D L := deskRun_valid hv1 hv2
        have htwo := runA_two D L h
        have hvA : deskV (runA D (L.take h)).1 = true := runA_valid hv1 _
        have hdl : (L.drop h).length ≤ 40 := by simp; omega
        have htl : (L.take h).length ≤ 40 := by simp; omega
        obtain ⟨A, pa, hA⟩ : ∃ A pa, runA D (L.take h) = (A, pa) := ⟨_, _, rfl⟩
        rw [hA] at htwo hvA
        obtain ⟨C, qc, hC⟩ : ∃ C qc, runA A (L.drop h) = (C, qc) := ⟨_, _, rfl⟩
        rw [hC, ← hrun, HR.out] at htwo
        have hvR : deskV R = true := by have := runA_valid hv1 L; rw [← hrun, HR.out] at this; exact this
        have hmn := runA_many D L
        rw [← hrun, HR.out] at hmn
        simp only at htwo hvA hmn
        obtain ⟨rfl, hpq⟩ := htwo
        have hnw : IntKind.i64.wrap n = n := IntWalk.i64_in _ (by omega)
        have hwr : IntKind.i64.wrap (pa + qc) = n := by rw [← hpq]; exact hnw
        have hdA : deskRun D (L.take h) = (A, pa) := by rw [deskRun_valid hv1 htl, hA]
        have hdC : deskRun A (L.drop h) = (R, qc) := by rw [deskRun_valid hvA hdl, hC]
        have hAs := deskRun_size D (L.take h)
        rw [hdA] at hAs
        simp only at hAs
        obtain ⟨Lt, hLt⟩ : ∃ x, x = L.take h := ⟨_, rfl⟩
        obtain ⟨Ld, hLd⟩ : ∃ x, x = L.drop h := ⟨_, rfl⟩
        rw [← hLt] at hdA
        rw [← hLd] at hdC
        have HA := Lib.hid hdA
        have HC := Lib.hid hdC
        have HVR := Lib.hid hvR
        have HPQ := Lib.hid hpq
        have hsplit : (L.length = 0 ∧ h = 0) ∨ (∃ b off, la = some ⟨b, off, none⟩ ∧ ¬ lc = h) := by
          by_cases h0 : L.length = 0
          · exact .inl ⟨h0, by omega⟩
          · obtain ⟨b, off, e, _⟩ := SA.out.get 0 (by omega)
            exact .inr ⟨b, off, e, by omega⟩
        have g1 : (0 : Int) ≤ h := by omega
        have g2 : (h : Int) ≤ lc := by omega
        have g3 : h ≤ lc := by omega
        have g4 : (h : Int) ≤ L.length := by omega
        clear hh hrun hvA hdl htl hA hC hvR hmn hpq hdA hdC hv2
        rcases hsplit with ⟨h0, rfl⟩ | ⟨b, off, rfl, hne⟩
        · obtain rfl : L = [] := List.eq_nil_of_length_eq_zero h0
          obtain rfl : Lt = [] := by rw [hLt]; rfl
          obtain rfl : Ld = [] := by rw [hLd]; rfl
          have ME0 : Hid (∀ wx a, SlA 0 w1.heap.size wx (.slice a 0 0) []) := Lib.hid (fun wx a => SlA.empty _ _ _ _ _ (Nat.zero_le _) (fun _ => rfl))
          have MES : Hid (∀ wx ad c, c ≤ 9223372036854775807 → SlA 0 w1.heap.size wx (.slice (some ad) 0 c) []) := Lib.hid (fun wx ad c hc => SlA.empty _ _ _ _ _ (by unfold maxLen; exact hc) (by intro h; cases h))
          by_cases hc0 : lc = 0
          · subst hc0
            clear hLt hLd
            go_upto_region 11 with fail
            have hdz_ : w8.drew.heap.size = w8.heap.size := rfl
            have bd_ : Below w8.heap.size w8 w8.drew := Below.drew (Below.refl _ _)
            have HBd := Lib.hid (HB.out.trans (bd_.mono (by omega)))
            have ODd := Lib.hid (OD.out.below bd_ (by omega))
            have KDd := Lib.hid (KD.out.drew)
            have ba_ : Below w8.drew.heap.size w8.drew (w8.drew.alloc (.cells #[.slice none 0 0, .slice none 0 0, .slice none 0 0, .slice none 0 0] 38)) := al_below _ _
            have haz_ : (w8.drew.alloc (.cells #[.slice none 0 0, .slice none 0 0, .slice none 0 0, .slice none 0 0] 38)).heap.size = w8.heap.size + 1 := alloc_size _ _
            have HBa := Lib.hid (HBd.out.trans (ba_.mono (by omega)))
            have ODa := Lib.hid (ODd.out.below ba_ (by omega))
            have KDa := Lib.hid (KDd.out.below ba_ (by omega))
            have KNa : Hid (Blk w8.heap.size (.cells #[.slice none 0 0, .slice none 0 0, .slice none 0 0, .slice none 0 0] 38) (w8.drew.alloc (.cells #[.slice none 0 0, .slice none 0 0, .slice none 0 0, .slice none 0 0] 38))) := Lib.hid (Blk.new w8.drew _)
            have bb_ : Below w8.heap.size w8 ((w8.alloc (.cells #[.slice none 0 0, .slice none 0 0, .slice none 0 0, .slice none 0 0] 38)).drew) := Below.drew (al_below _ _)
            have hbz_ : ((w8.alloc (.cells #[.slice none 0 0, .slice none 0 0, .slice none 0 0, .slice none 0 0] 38)).drew).heap.size = w8.heap.size + 1 := alloc_size _ _
            have HBb := Lib.hid (HB.out.trans (bb_.mono (by omega)))
            have ODb := Lib.hid (OD.out.below bb_ (by omega))
            have KDb := Lib.hid (KD.out.below bb_ (by omega))
            have KNb : Hid (Blk w8.heap.size (.cells #[.slice none 0 0, .slice none 0 0, .slice none 0 0, .slice none 0 0] 38) ((w8.alloc (.cells #[.slice none 0 0, .slice none 0 0, .slice none 0 0, .slice none 0 0] 38)).drew)) := Lib.hid (Blk.new w8 _)
            have d_0 := KDd.out.cell 0
            have d_1 := KDd.out.cell 1
            have d_2 := KDd.out.cell 2
            have d_3 := KDd.out.cell 3
            have e_0 := KDa.out.cell 0
            have e_1 := KDa.out.cell 1
            have e_2 := KDa.out.cell 2
            have e_3 := KDa.out.cell 3
            have n_0 := KNa.out.cell 0
            have n_1 := KNa.out.cell 1
            have n_2 := KNa.out.cell 2
            have n_3 := KNa.out.cell 3
            have bd_0 := KDb.out.cell 0
            have bd_1 := KDb.out.cell 1
            have bd_2 := KDb.out.cell 2
            have bd_3 := KDb.out.cell 3
            have bn_0 := KNb.out.cell 0
            have bn_1 := KNb.out.cell 1
            have bn_2 := KNb.out.cell 2
            have bn_3 := KNb.out.cell 3
            have bm_0 := KNb.out.free 0
            have bm_1 := KNb.out.free 1
            have bm_2 := KNb.out.free 2
            have bm_3 := KNb.out.free 3
            have m_0 := KNa.out.free 0
            have m_1 := KNa.out.free 1
            have m_2 := KNa.out.free 2
            have m_3 := KNa.out.free 3
            go_cut [12, 13] (fun p n wx => ∃ gA, p = .pointer (some ⟨gA, 0, none⟩) ∧ n = .int .i64 pa ∧ Hid (LayD w8.drew A gA wx))
            case first =>
              go_region_law (first
                | ((first | go_at_call 19 | (go_simp; go_at_call 19)); (with_reducible show Calls _ _ _ w8.drew _); refine (impl_DeskRun _ _ _ _ _ _ _ _ _ D [] w8.drew (HE.out.below HBd.out) ODd.out (by omega) (by omega) (ME0.out _ _) (by omega)).mono ?_; rintro e5 w5 ⟨a0, a1, a2, a3, nn, rfl, o_, hn_, h_⟩; (have o2_ := dsk_own o_ HA.out); obtain ⟨z0_, z1_, z2_, z3_, z4_, z5_, z6_, z7_, rfl, rfl, rfl, rfl, _⟩ := o2_.at.shapes; (have HO5 := Lib.hid o2_); (obtain rfl : nn = pa := by rw [hn_, HA.out]); clear hn_; (have HH5 := Lib.hid h_); (have r_ := Blk.new w5 (.cells #[.slice none 0 0, .slice none 0 0, .slice none 0 0, .slice none 0 0] 38)); (have r_0 := r_.cell 0); (have r_1 := r_.cell 1); (have r_2 := r_.cell 2); (have r_3 := r_.cell 3); (have t_0 := r_.free 0); (have t_1 := r_.free 1); (have t_2 := r_.free 2); (have t_3 := r_.free 3); clear o_ o2_ h_ r_)
                | ((first | go_at_call 19 | (go_simp; go_at_call 19)); (with_reducible show Calls _ _ _ (w8.drew.alloc (.cells #[.slice none 0 0, .slice none 0 0, .slice none 0 0, .slice none 0 0] 38)) _); refine (impl_DeskRun _ _ _ _ _ _ _ _ _ D [] (w8.drew.alloc (.cells #[.slice none 0 0, .slice none 0 0, .slice none 0 0, .slice none 0 0] 38)) (HE.out.below HBa.out) ODa.out (by omega) (by omega) (ME0.out _ _) (by omega)).mono ?_; rintro e5 w5 ⟨a0, a1, a2, a3, nn, rfl, o_, hn_, h_⟩; (have o2_ := dsk_own o_ HA.out); obtain ⟨z0_, z1_, z2_, z3_, z4_, z5_, z6_, z7_, rfl, rfl, rfl, rfl, _⟩ := o2_.at.shapes; (have HO6 := Lib.hid o2_); (obtain rfl : nn = pa := by rw [hn_, HA.out]); clear hn_; (have HH6 := Lib.hid h_); (have q_ := KNa.out.below h_ (by omega)); (have q_0 := q_.cell 0); (have q_1 := q_.cell 1); (have q_2 := q_.cell 2); (have q_3 := q_.cell 3); (have p_0 := q_.free 0); (have p_1 := q_.free 1); (have p_2 := q_.free 2); (have p_3 := q_.free 3); clear o_ o2_ h_ q_)
                | ((first | go_at_call 19 | (go_simp; go_at_call 19)); (with_reducible show Calls _ _ _ ((w8.alloc (.cells #[.slice none 0 0, .slice none 0 0, .slice none 0 0, .slice none 0 0] 38)).drew) _); refine (impl_DeskRun _ _ _ _ _ _ _ _ _ D [] ((w8.alloc (.cells #[.slice none 0 0, .slice none 0 0, .slice none 0 0, .slice none 0 0] 38)).drew) (HE.out.below HBb.out) ODb.out (by omega) (by omega) (ME0.out _ _) (by omega)).mono ?_; rintro e5 w5 ⟨a0, a1, a2, a3, nn, rfl, o_, hn_, h_⟩; (have o2_ := dsk_own o_ HA.out); obtain ⟨z0_, z1_, z2_, z3_, z4_, z5_, z6_, z7_, rfl, rfl, rfl, rfl, _⟩ := o2_.at.shapes; (have HO7 := Lib.hid o2_); (obtain rfl : nn = pa := by rw [hn_, HA.out]); clear hn_; (have HH7 := Lib.hid h_); (have q_ := KNb.out.below h_ (by omega)); (have q_0 := q_.cell 0); (have q_1 := q_.cell 1); (have q_2 := q_.cell 2); (have q_3 := q_.cell 3); (have p_0 := q_.free 0); (have p_1 := q_.free 1); (have p_2 := q_.free 2); (have p_3 := q_.free 3); clear o_ o2_ h_ q_))
              all_goals (
                go_wp2_with fail
                go_meet
                first
                  | with_reducible exact ⟨_, rfl, rfl, Lib.hid (lay1 HO5.out HH5.out)⟩
                  | with_reducible exact ⟨_, rfl, rfl, Lib.hid (lay3 HO5.out HH5.out)⟩
                  | ((have g_ := HO6); exact ⟨_, rfl, rfl, Lib.hid (lay2 HO6.out HH6.out)⟩)
                  | ((have g_ := HO7); exact ⟨_, rfl, rfl, Lib.hid (lay4 HO7.out HH7.out)⟩))
            case rest =>
              obtain ⟨ga, rfl, rfl, HQ⟩ := hcut
              obtain ⟨w9, rfl⟩ : ∃ x, x = wc := ⟨_, rfl⟩
              clear ODd KDd HBa ODa KDa KNa ba_ haz_ d_0 d_1 d_2 d_3 e_0 e_1 e_2 e_3 n_0 n_1 n_2 n_3 m_0 m_1 m_2 m_3 bd_0 bd_1 bd_2 bd_3 bn_0 bn_1 bn_2 bn_3 bm_0 bm_1 bm_2 bm_3 HBb ODb KDb KNb bb_ hbz_
              obtain ⟨u0, u1, u2, u3, K_, O_, hl_, h0_⟩ := HQ.out
              have h_ := bd_.trans (h0_.mono (by omega))
              have hs9 := h_.size
              replace HD := Lib.hid (HD.out.below h_ (by omega)); replace OD := Lib.hid (OD.out.below h_ (by omega)); replace SA := Lib.hid (SA.out.below h_ (by omega)); replace KD := Lib.hid (KD.out.below h_ (by omega)); replace OX := Lib.hid (OX.out.below h_ (by omega)); replace KX := Lib.hid (KX.out.below h_ (by omega))
              replace HB := Lib.hid (HB.out.trans (h_.mono (by omega)))
              have hl_ga : ga < w9.heap.size := K_.lt
              obtain ⟨oa0, oa1, oa2, oa3, oa4, oa5, oa6, oa7, rfl, rfl, rfl, rfl, _⟩ := O_.shapes
              have KA := Lib.hid K_
              have OA := Lib.hid O_
              clear HQ K_ O_ hl_ h0_ h_ bd_ HBd hdz_
              go_upto_region 12 with fail
              have hdz_ : w9.drew.heap.size = w9.heap.size := rfl
              have bd_ : Below w9.heap.size w9 w9.drew := Below.drew (Below.refl _ _)
              have HBd := Lib.hid (HB.out.trans (bd_.mono (by omega)))
              have ODd := Lib.hid (OA.out.below bd_ (by omega))
              have KDd := Lib.hid (KA.out.drew)
              have ba_ : Below w9.drew.heap.size w9.drew (w9.drew.alloc (.cells #[.slice none 0 0, .slice none 0 0, .slice none 0 0, .slice none 0 0] 38)) := al_below _ _
              have haz_ : (w9.drew.alloc (.cells #[.slice none 0 0, .slice none 0 0, .slice none 0 0, .slice none 0 0] 38)).heap.size = w9.heap.size + 1 := alloc_size _ _
              have HBa := Lib.hid (HBd.out.trans (ba_.mono (by omega)))
              have ODa := Lib.hid (ODd.out.below ba_ (by omega))
              have KDa := Lib.hid (KDd.out.below ba_ (by omega))
              have KNa : Hid (Blk w9.heap.size (.cells #[.slice none 0 0, .slice none 0 0, .slice none 0 0, .slice none 0 0] 38) (w9.drew.alloc (.cells #[.slice none 0 0, .slice none 0 0, .slice none 0 0, .slice none 0 0] 38))) := Lib.hid (Blk.new w9.drew _)
              have bb_ : Below w9.heap.size w9 ((w9.alloc (.cells #[.slice none 0 0, .slice none 0 0, .slice none 0 0, .slice none 0 0] 38)).drew) := Below.drew (al_below _ _)
              have hbz_ : ((w9.alloc (.cells #[.slice none 0 0, .slice none 0 0, .slice none 0 0, .slice none 0 0] 38)).drew).heap.size = w9.heap.size + 1 := alloc_size _ _
              have HBb := Lib.hid (HB.out.trans (bb_.mono (by omega)))
              have ODb := Lib.hid (OA.out.below bb_ (by omega))
              have KDb := Lib.hid (KA.out.below bb_ (by omega))
              have KNb : Hid (Blk w9.heap.size (.cells #[.slice none 0 0, .slice none 0 0, .slice none 0 0, .slice none 0 0] 38) ((w9.alloc (.cells #[.slice none 0 0, .slice none 0 0, .slice none 0 0, .slice none 0 0] 38)).drew)) := Lib.hid (Blk.new w9 _)
              have d_0 := KDd.out.cell 0
              have d_1 := KDd.out.cell 1
              have d_2 := KDd.out.cell 2
              have d_3 := KDd.out.cell 3
              have e_0 := KDa.out.cell 0
              have e_1 := KDa.out.cell 1
              have e_2 := KDa.out.cell 2
              have e_3 := KDa.out.cell 3
              have n_0 := KNa.out.cell 0
              have n_1 := KNa.out.cell 1
              have n_2 := KNa.out.cell 2
              have n_3 := KNa.out.cell 3
              have bd_0 := KDb.out.cell 0
              have bd_1 := KDb.out.cell 1
              have bd_2 := KDb.out.cell 2
              have bd_3 := KDb.out.cell 3
              have bn_0 := KNb.out.cell 0
              have bn_1 := KNb.out.cell 1
              have bn_2 := KNb.out.cell 2
              have bn_3 := KNb.out.cell 3
              have bm_0 := KNb.out.free 0
              have bm_1 := KNb.out.free 1
              have bm_2 := KNb.out.free 2
              have bm_3 := KNb.out.free 3
              have m_0 := KNa.out.free 0
              have m_1 := KNa.out.free 1
              have m_2 := KNa.out.free 2
              have m_3 := KNa.out.free 3
              go_cut [14, 15] (fun p n wx => ∃ gA, p = .pointer (some ⟨gA, 0, none⟩) ∧ n = .int .i64 qc ∧ Hid (LayD w9.drew R gA wx))
              case first =>
                go_region_law (first
                  | ((first | go_at_call 19 | (go_simp; go_at_call 19)); (with_reducible show Calls _ _ _ w9.drew _); refine (impl_DeskRun _ _ _ _ _ _ _ _ _ A [] w9.drew (HE.out.below HBd.out) ODd.out (by omega) (by omega) (ME0.out _ _) (by omega)).mono ?_; rintro e5 w5 ⟨a0, a1, a2, a3, nn, rfl, o_, hn_, h_⟩; (have o2_ := dsk_own o_ HC.out); obtain ⟨z0_, z1_, z2_, z3_, z4_, z5_, z6_, z7_, rfl, rfl, rfl, rfl, _⟩ := o2_.at.shapes; (have HO5 := Lib.hid o2_); (obtain rfl : nn = qc := by rw [hn_, HC.out]); clear hn_; (have HH5 := Lib.hid h_); (have r_ := Blk.new w5 (.cells #[.slice none 0 0, .slice none 0 0, .slice none 0 0, .slice none 0 0] 38)); (have r_0 := r_.cell 0); (have r_1 := r_.cell 1); (have r_2 := r_.cell 2); (have r_3 := r_.cell 3); (have t_0 := r_.free 0); (have t_1 := r_.free 1); (have t_2 := r_.free 2); (have t_3 := r_.free 3); clear o_ o2_ h_ r_)
                  | ((first | go_at_call 19 | (go_simp; go_at_call 19)); (with_reducible show Calls _ _ _ (w9.drew.alloc (.cells #[.slice none 0 0, .slice none 0 0, .slice none 0 0, .slice none 0 0] 38)) _); refine (impl_DeskRun _ _ _ _ _ _ _ _ _ A [] (w9.drew.alloc (.cells #[.slice none 0 0, .slice none 0 0, .slice none 0 0, .slice none 0 0] 38)) (HE.out.below HBa.out) ODa.out (by omega) (by omega) (ME0.out _ _) (by omega)).mono ?_; rintro e5 w5 ⟨a0, a1, a2, a3, nn, rfl, o_, hn_, h_⟩; (have o2_ := dsk_own o_ HC.out); obtain ⟨z0_, z1_, z2_, z3_, z4_, z5_, z6_, z7_, rfl, rfl, rfl, rfl, _⟩ := o2_.at.shapes; (have HO6 := Lib.hid o2_); (obtain rfl : nn = qc := by rw [hn_, HC.out]); clear hn_; (have HH6 := Lib.hid h_); (have q_ := KNa.out.below h_ (by omega)); (have q_0 := q_.cell 0); (have q_1 := q_.cell 1); (have q_2 := q_.cell 2); (have q_3 := q_.cell 3); (have p_0 := q_.free 0); (have p_1 := q_.free 1); (have p_2 := q_.free 2); (have p_3 := q_.free 3); clear o_ o2_ h_ q_)
                  | ((first | go_at_call 19 | (go_simp; go_at_call 19)); (with_reducible show Calls _ _ _ ((w9.alloc (.cells #[.slice none 0 0, .slice none 0 0, .slice none 0 0, .slice none 0 0] 38)).drew) _); refine (impl_DeskRun _ _ _ _ _ _ _ _ _ A [] ((w9.alloc (.cells #[.slice none 0 0, .slice none 0 0, .slice none 0 0, .slice none 0 0] 38)).drew) (HE.out.below HBb.out) ODb.out (by omega) (by omega) (ME0.out _ _) (by omega)).mono ?_; rintro e5 w5 ⟨a0, a1, a2, a3, nn, rfl, o_, hn_, h_⟩; (have o2_ := dsk_own o_ HC.out); obtain ⟨z0_, z1_, z2_, z3_, z4_, z5_, z6_, z7_, rfl, rfl, rfl, rfl, _⟩ := o2_.at.shapes; (have HO7 := Lib.hid o2_); (obtain rfl : nn = qc := by rw [hn_, HC.out]); clear hn_; (have HH7 := Lib.hid h_); (have q_ := KNb.out.below h_ (by omega)); (have q_0 := q_.cell 0); (have q_1 := q_.cell 1); (have q_2 := q_.cell 2); (have q_3 := q_.cell 3); (have p_0 := q_.free 0); (have p_1 := q_.free 1); (have p_2 := q_.free 2); (have p_3 := q_.free 3); clear o_ o2_ h_ q_))
                all_goals (
                  go_wp2_with fail
                  go_meet
                  first
                    | with_reducible exact ⟨_, rfl, rfl, Lib.hid (lay1 HO5.out HH5.out)⟩
                    | with_reducible exact ⟨_, rfl, rfl, Lib.hid (lay3 HO5.out HH5.out)⟩
                    | ((have g_ := HO6); exact ⟨_, rfl, rfl, Lib.hid (lay2 HO6.out HH6.out)⟩)
                    | ((have g_ := HO7); exact ⟨_, rfl, rfl, Lib.hid (lay4 HO7.out HH7.out)⟩))
              case rest =>
                obtain ⟨gc, rfl, rfl, HQ⟩ := hcut
                obtain ⟨w10, rfl⟩ : ∃ x, x = wc := ⟨_, rfl⟩
                clear ODd KDd HBa ODa KDa KNa ba_ haz_ d_0 d_1 d_2 d_3 e_0 e_1 e_2 e_3 n_0 n_1 n_2 n_3 m_0 m_1 m_2 m_3 bd_0 bd_1 bd_2 bd_3 bn_0 bn_1 bn_2 bn_3 bm_0 bm_1 bm_2 bm_3 HBb ODb KDb KNb bb_ hbz_
                obtain ⟨u0, u1, u2, u3, K_, O_, hl_, h0_⟩ := HQ.out
                have h_ := bd_.trans (h0_.mono (by omega))
                have hs10 := h_.size
                replace HD := Lib.hid (HD.out.below h_ (by omega)); replace OD := Lib.hid (OD.out.below h_ (by omega)); replace SA := Lib.hid (SA.out.below h_ (by omega)); replace KD := Lib.hid (KD.out.below h_ (by omega)); replace OX := Lib.hid (OX.out.below h_ (by omega)); replace KX := Lib.hid (KX.out.below h_ (by omega)); replace KA := Lib.hid (KA.out.below h_ (by omega)); replace OA := Lib.hid (OA.out.below h_ (by omega))
                replace HB := Lib.hid (HB.out.trans (h_.mono (by omega)))
                have hl_gc : gc < w10.heap.size := K_.lt
                obtain ⟨oc0, oc1, oc2, oc3, oc4, oc5, oc6, oc7, rfl, rfl, rfl, rfl, _⟩ := O_.shapes
                have KC := Lib.hid K_
                have OC := Lib.hid O_
                clear HQ K_ O_ hl_ h0_ h_ bd_ HBd hdz_
                go_wp2_with fail
                refine (DrawRowsOf_any _ ds _ (SlB.wide HD.out (by omega))).mono ?_
                rintro e w11 ⟨⟨mn, mp, mq, macts⟩, mva, mve, mes, rfl, hM_, hV_, hle_, h_⟩
                have hs11 := h_.size
                replace OX := Lib.hid (OX.out.below h_ (by omega)); replace KX := Lib.hid (KX.out.below h_ (by omega)); replace KC := Lib.hid (KC.out.below h_ (by omega)); replace OC := Lib.hid (OC.out.below h_ (by omega))
                replace HB := Lib.hid (HB.out.trans (h_.mono (by omega)))
                have HM := Lib.hid hM_
                obtain ⟨ma, mc, rfl, _, _⟩ := hM_.1.shape
                obtain ⟨ea, ec, rfl, _, _⟩ := Sl.shape hV_
                clear h_ hM_ hV_
                obtain ⟨w12, hw_⟩ : ∃ w_, w_ = w11.alloc (.cells #[(.int .i64 mn), (.int .i64 mp), (.int .i64 mq), (.slice ma macts.length mc)] 31) := ⟨_, rfl⟩
                obtain ⟨h_, K_, hs12⟩ := box_facts2 hw_
                replace OX := Lib.hid (OX.out.below h_ (by omega)); replace KX := Lib.hid (KX.out.below h_ (by omega)); replace KC := Lib.hid (KC.out.below h_ (by omega)); replace OC := Lib.hid (OC.out.below h_ (by omega))
                replace HB := Lib.hid (HB.out.trans (h_.mono (by omega)))
                replace HM := Lib.hid (HM.out.below h_)
                obtain ⟨gm, hg_⟩ : ∃ g_, g_ = w11.heap.size := ⟨_, rfl⟩
                rw [← hg_] at K_
                have KM := Lib.hid K_
                have hl_gm : gm < w12.heap.size := by omega
                have HW_ := Lib.hid hw_
                clear h_ K_ hw_
                go_upto_region 14 with fail
                simp only [← HW_.out, ← hg_]
                clear HW_ hg_
                go_upto_region 14 with fail
                have bd_ : Below w12.heap.size w12 w12.drew := Below.drew (Below.refl _ _)
                have hdz_ : w12.drew.heap.size = w12.heap.size := rfl
                have KXd := Lib.hid (KX.out.below bd_ (by omega))
                have KCd := Lib.hid (KC.out.below bd_ (by omega))
                have KMd := Lib.hid (KM.out.below bd_ (by omega))
                have OXd := Lib.hid (OX.out.below bd_ (by omega))
                have OCd := Lib.hid (OC.out.below bd_ (by omega))
                have HMd := Lib.hid (HM.out.below (bd_.mono (by omega)))
                have HBd := Lib.hid (HB.out.trans (bd_.mono (by omega)))
                have vdx0 := KXd.out.cell 0
                have vdx1 := KXd.out.cell 1
                have vdx2 := KXd.out.cell 2
                have vdx3 := KXd.out.cell 3
                have vdc0 := KCd.out.cell 0
                have vdc1 := KCd.out.cell 1
                have vdc2 := KCd.out.cell 2
                have vdc3 := KCd.out.cell 3
                have vdm0 := KMd.out.cell 0
                have vdm1 := KMd.out.cell 1
                have vdm2 := KMd.out.cell 2
                have vdm3 := KMd.out.cell 3
                have hfl : R.first.length ≤ 1048576 ∧ R.now.length ≤ 1048576 := by have h := hRs; unfold Dsk.size at h; omega
                have hrl := rowsV_len ⟨mn, mp, mq, macts⟩ R.now
                have hrx : rowsV ⟨mn, mp, mq, macts⟩ R.first = rowsV ⟨mn, mp, mq, macts⟩ R.now := desk_rows _ HVR.out
                obtain ⟨rs, hrs⟩ : ∃ rs, rowsV ⟨mn, mp, mq, macts⟩ R.now = rs := ⟨_, rfl⟩
                rw [hrs] at hrl hrx
                have HRX := Lib.hid hrx
                have HRS := Lib.hid hrs
                clear hrx hrs
                go_region_held3 (fun w' => w'.cell? ⟨gx, 0, none⟩ = some (.slice x0 R.first.length x1) ∧ w'.cell? ⟨gx, 1, none⟩ = some (.slice x2 R.goal.length x3) ∧ w'.cell? ⟨gx, 2, none⟩ = some (.slice x4 R.made.length x5) ∧ w'.cell? ⟨gx, 3, none⟩ = some (.slice x6 R.now.length x7) ∧ w'.cell? ⟨gc, 0, none⟩ = some (.slice oc0 R.first.length oc1) ∧ w'.cell? ⟨gc, 1, none⟩ = some (.slice oc2 R.goal.length oc3) ∧ w'.cell? ⟨gc, 2, none⟩ = some (.slice oc4 R.made.length oc5) ∧ w'.cell? ⟨gc, 3, none⟩ = some (.slice oc6 R.now.length oc7) ∧ w'.cell? ⟨gm, 0, none⟩ = some (.int .i64 mn) ∧ w'.cell? ⟨gm, 1, none⟩ = some (.int .i64 mp) ∧ w'.cell? ⟨gm, 2, none⟩ = some (.int .i64 mq) ∧ w'.cell? ⟨gm, 3, none⟩ = some (.slice ma macts.length mc)) (first | with_reducible assumption | go_keep) (first
                  | ((have g_ := OT); go_at_call 11; refine (sameInts_same _ _ _ _ _ _ rs _ OS.out OT.out (by omega)).mono ?_; rintro e95 w95 ⟨rfl, h_⟩; (have hs95 := h_.size); (have k95x_ := KX94.out.below h_ (by omega)); (have k95c_ := KC94.out.below h_ (by omega)); (have k95m_ := KM94.out.below h_ (by omega)); (have v95x0 := k95x_.cell 0); (have v95x1 := k95x_.cell 1); (have v95x2 := k95x_.cell 2); (have v95x3 := k95x_.cell 3); (have v95c0 := k95c_.cell 0); (have v95c1 := k95c_.cell 1); (have v95c2 := k95c_.cell 2); (have v95c3 := k95c_.cell 3); (have v95m0 := k95m_.cell 0); (have v95m1 := k95m_.cell 1); (have v95m2 := k95m_.cell 2); (have v95m3 := k95m_.cell 3); (have KX95 := Lib.hid k95x_); (have KC95 := Lib.hid k95c_); (have KM95 := Lib.hid k95m_);  (have HM95 := Lib.hid (HM94.out.below (h_.mono (by omega)))); (have HB95 := Lib.hid (HB94.out.trans (h_.mono (by omega)))); clear h_ g_)
                  | ((have g_ := OS0); go_at_call 17; refine (impl_RowsOf _ _ _ _ ⟨mn, mp, mq, macts⟩ _ _ R.now _ HM93.out.1 (by omega) (by have := HM93.out.2.1; simp only at this ⊢; omega) (fun x h => by have := HM93.out.2.2 x h; omega) OX93.out.now (by omega) (by omega)).mono ?_; rintro e94 w94 ⟨v94, rfl, o_, h_⟩; rw [HRS.out] at o_; (have hs94 := h_.size); obtain ⟨ta, tc, rfl, _⟩ := Own.open o_; (have k94x_ := KX93.out.below h_ (by omega)); (have k94c_ := KC93.out.below h_ (by omega)); (have k94m_ := KM93.out.below h_ (by omega)); (have v94x0 := k94x_.cell 0); (have v94x1 := k94x_.cell 1); (have v94x2 := k94x_.cell 2); (have v94x3 := k94x_.cell 3); (have v94c0 := k94c_.cell 0); (have v94c1 := k94c_.cell 1); (have v94c2 := k94c_.cell 2); (have v94c3 := k94c_.cell 3); (have v94m0 := k94m_.cell 0); (have v94m1 := k94m_.cell 1); (have v94m2 := k94m_.cell 2); (have v94m3 := k94m_.cell 3); (have KX94 := Lib.hid k94x_); (have KC94 := Lib.hid k94c_); (have KM94 := Lib.hid k94m_);  (have HM94 := Lib.hid (HM93.out.below (h_.mono (by omega)))); (have HB94 := Lib.hid (HB93.out.trans (h_.mono (by omega)))); (have OS := Lib.hid (OS0.out.below h_ (by omega))); (have OT := Lib.hid o_.sl); clear h_ o_ g_)
                  | ((have g_ := HB92); go_at_call 17; refine (impl_RowsOf _ _ _ _ ⟨mn, mp, mq, macts⟩ _ _ R.first _ HM92.out.1 (by omega) (by have := HM92.out.2.1; simp only at this ⊢; omega) (fun x h => by have := HM92.out.2.2 x h; omega) OX92.out.first (by omega) (by omega)).mono ?_; rintro e93 w93 ⟨v93, rfl, o_, h_⟩; rw [HRX.out] at o_; (have hs93 := h_.size); obtain ⟨ra, rc, rfl, _⟩ := Own.open o_; (have k93x_ := KX92.out.below h_ (by omega)); (have k93c_ := KC92.out.below h_ (by omega)); (have k93m_ := KM92.out.below h_ (by omega)); (have v93x0 := k93x_.cell 0); (have v93x1 := k93x_.cell 1); (have v93x2 := k93x_.cell 2); (have v93x3 := k93x_.cell 3); (have v93c0 := k93c_.cell 0); (have v93c1 := k93c_.cell 1); (have v93c2 := k93c_.cell 2); (have v93c3 := k93c_.cell 3); (have v93m0 := k93m_.cell 0); (have v93m1 := k93m_.cell 1); (have v93m2 := k93m_.cell 2); (have v93m3 := k93m_.cell 3); (have KX93 := Lib.hid k93x_); (have KC93 := Lib.hid k93c_); (have KM93 := Lib.hid k93m_); (have OX93 := Lib.hid (OX92.out.below h_ (by omega))); (have HM93 := Lib.hid (HM92.out.below (h_.mono (by omega)))); (have HB93 := Lib.hid (HB92.out.trans (h_.mono (by omega)))); (have OS0 := Lib.hid o_.sl); clear h_ o_ g_)
                  | ((have g_ := HB91); go_at_call 21; refine (sameDesk_eq _ _ _ _ _ _ _ _ _ _ _ _ R _ OC91.out OX91.out (by omega) (by omega) hRs).mono ?_; rintro e92 w92 ⟨rfl, h_⟩; (have hs92 := h_.size); (have k92x_ := KX91.out.below h_ (by omega)); (have k92c_ := KC91.out.below h_ (by omega)); (have k92m_ := KM91.out.below h_ (by omega)); (have v92x0 := k92x_.cell 0); (have v92x1 := k92x_.cell 1); (have v92x2 := k92x_.cell 2); (have v92x3 := k92x_.cell 3); (have v92c0 := k92c_.cell 0); (have v92c1 := k92c_.cell 1); (have v92c2 := k92c_.cell 2); (have v92c3 := k92c_.cell 3); (have v92m0 := k92m_.cell 0); (have v92m1 := k92m_.cell 1); (have v92m2 := k92m_.cell 2); (have v92m3 := k92m_.cell 3); (have KX92 := Lib.hid k92x_); (have KC92 := Lib.hid k92c_); (have KM92 := Lib.hid k92m_); (have OX92 := Lib.hid (OX91.out.below h_ (by omega))); (have HM92 := Lib.hid (HM91.out.below (h_.mono (by omega)))); (have HB92 := Lib.hid (HB91.out.trans (h_.mono (by omega)))); clear h_ g_)
                  | (go_at_call 24; refine (impl_DeskValid _ _ _ _ _ _ R _ (HE.out.below HBd.out) OXd.out (by omega) hRs).mono ?_; rintro e91 w91 ⟨rfl, h_⟩; rw [HVR.out]; (have hs91 := h_.size); (have k91x_ := KXd.out.below h_ (by omega)); (have k91c_ := KCd.out.below h_ (by omega)); (have k91m_ := KMd.out.below h_ (by omega)); (have v91x0 := k91x_.cell 0); (have v91x1 := k91x_.cell 1); (have v91x2 := k91x_.cell 2); (have v91x3 := k91x_.cell 3); (have v91c0 := k91c_.cell 0); (have v91c1 := k91c_.cell 1); (have v91c2 := k91c_.cell 2); (have v91c3 := k91c_.cell 3); (have v91m0 := k91m_.cell 0); (have v91m1 := k91m_.cell 1); (have v91m2 := k91m_.cell 2); (have v91m3 := k91m_.cell 3); (have KX91 := Lib.hid k91x_); (have KC91 := Lib.hid k91c_); (have KM91 := Lib.hid k91m_); (have OX91 := Lib.hid (OXd.out.below h_ (by omega))); (have OC91 := Lib.hid (OCd.out.below h_ (by omega))); (have HM91 := Lib.hid (HMd.out.below (h_.mono (by omega)))); (have HB91 := Lib.hid (HBd.out.trans (h_.mono (by omega)))); clear h_))
                go_wp2
                go_ret
                exact ⟨rfl, HB95.out⟩
          · cases la with
            | none =>
              obtain ⟨_, _, e, _, _, _, hz, _⟩ := SA.out
              injection e with e1 _ e3
              exact absurd (e3.trans (hz e1.symm)) hc0
            | some ad =>
              clear hLt hLd
              go_upto_region 11 with fail
              have hdz_ : w8.drew.heap.size = w8.heap.size := rfl
              have bd_ : Below w8.heap.size w8 w8.drew := Below.drew (Below.refl _ _)
              have HBd := Lib.hid (HB.out.trans (bd_.mono (by omega)))
              have ODd := Lib.hid (OD.out.below bd_ (by omega))
              have KDd := Lib.hid (KD.out.drew)
              have ba_ : Below w8.drew.heap.size w8.drew (w8.drew.alloc (.cells #[.slice none 0 0, .slice none 0 0, .slice none 0 0, .slice none 0 0] 38)) := al_below _ _
              have haz_ : (w8.drew.alloc (.cells #[.slice none 0 0, .slice none 0 0, .slice none 0 0, .slice none 0 0] 38)).heap.size = w8.heap.size + 1 := alloc_size _ _
              have HBa := Lib.hid (HBd.out.trans (ba_.mono (by omega)))
              have ODa := Lib.hid (ODd.out.below ba_ (by omega))
              have KDa := Lib.hid (KDd.out.below ba_ (by omega))
              have KNa : Hid (Blk w8.heap.size (.cells #[.slice none 0 0, .slice none 0 0, .slice none 0 0, .slice none 0 0] 38) (w8.drew.alloc (.cells #[.slice none 0 0, .slice none 0 0, .slice none 0 0, .slice none 0 0] 38))) := Lib.hid (Blk.new w8.drew _)
              have bb_ : Below w8.heap.size w8 ((w8.alloc (.cells #[.slice none 0 0, .slice none 0 0, .slice none 0 0, .slice none 0 0] 38)).drew) := Below.drew (al_below _ _)
              have hbz_ : ((w8.alloc (.cells #[.slice none 0 0, .slice none 0 0, .slice none 0 0, .slice none 0 0] 38)).drew).heap.size = w8.heap.size + 1 := alloc_size _ _
              have HBb := Lib.hid (HB.out.trans (bb_.mono (by omega)))
              have ODb := Lib.hid (OD.out.below bb_ (by omega))
              have KDb := Lib.hid (KD.out.below bb_ (by omega))
              have KNb : Hid (Blk w8.heap.size (.cells #[.slice none 0 0, .slice none 0 0, .slice none 0 0, .slice none 0 0] 38) ((w8.alloc (.cells #[.slice none 0 0, .slice none 0 0, .slice none 0 0, .slice none 0 0] 38)).drew)) := Lib.hid (Blk.new w8 _)
              have d_0 := KDd.out.cell 0
              have d_1 := KDd.out.cell 1
              have d_2 := KDd.out.cell 2
              have d_3 := KDd.out.cell 3
              have e_0 := KDa.out.cell 0
              have e_1 := KDa.out.cell 1
              have e_2 := KDa.out.cell 2
              have e_3 := KDa.out.cell 3
              have n_0 := KNa.out.cell 0
              have n_1 := KNa.out.cell 1
              have n_2 := KNa.out.cell 2
              have n_3 := KNa.out.cell 3
              have bd_0 := KDb.out.cell 0
              have bd_1 := KDb.out.cell 1
              have bd_2 := KDb.out.cell 2
              have bd_3 := KDb.out.cell 3
              have bn_0 := KNb.out.cell 0
              have bn_1 := KNb.out.cell 1
              have bn_2 := KNb.out.cell 2
              have bn_3 := KNb.out.cell 3
              have bm_0 := KNb.out.free 0
              have bm_1 := KNb.out.free 1
              have bm_2 := KNb.out.free 2
              have bm_3 := KNb.out.free 3
              have m_0 := KNa.out.free 0
              have m_1 := KNa.out.free 1
              have m_2 := KNa.out.free 2
              have m_3 := KNa.out.free 3
              go_cut [12, 13] (fun p n wx => ∃ gA, p = .pointer (some ⟨gA, 0, none⟩) ∧ n = .int .i64 pa ∧ Hid (LayD w8.drew A gA wx))
              case first =>
                go_region_law (first
                  | ((first | go_at_call 19 | (go_simp; go_at_call 19)); (with_reducible show Calls _ _ _ w8.drew _); refine (impl_DeskRun _ _ _ _ _ _ _ _ _ D [] w8.drew (HE.out.below HBd.out) ODd.out (by omega) (by omega) (MES.out _ _ _ (by omega)) (by omega)).mono ?_; rintro e5 w5 ⟨a0, a1, a2, a3, nn, rfl, o_, hn_, h_⟩; (have o2_ := dsk_own o_ HA.out); obtain ⟨z0_, z1_, z2_, z3_, z4_, z5_, z6_, z7_, rfl, rfl, rfl, rfl, _⟩ := o2_.at.shapes; (have HO5 := Lib.hid o2_); (obtain rfl : nn = pa := by rw [hn_, HA.out]); clear hn_; (have HH5 := Lib.hid h_); (have r_ := Blk.new w5 (.cells #[.slice none 0 0, .slice none 0 0, .slice none 0 0, .slice none 0 0] 38)); (have r_0 := r_.cell 0); (have r_1 := r_.cell 1); (have r_2 := r_.cell 2); (have r_3 := r_.cell 3); (have t_0 := r_.free 0); (have t_1 := r_.free 1); (have t_2 := r_.free 2); (have t_3 := r_.free 3); clear o_ o2_ h_ r_)
                  | ((first | go_at_call 19 | (go_simp; go_at_call 19)); (with_reducible show Calls _ _ _ (w8.drew.alloc (.cells #[.slice none 0 0, .slice none 0 0, .slice none 0 0, .slice none 0 0] 38)) _); refine (impl_DeskRun _ _ _ _ _ _ _ _ _ D [] (w8.drew.alloc (.cells #[.slice none 0 0, .slice none 0 0, .slice none 0 0, .slice none 0 0] 38)) (HE.out.below HBa.out) ODa.out (by omega) (by omega) (MES.out _ _ _ (by omega)) (by omega)).mono ?_; rintro e5 w5 ⟨a0, a1, a2, a3, nn, rfl, o_, hn_, h_⟩; (have o2_ := dsk_own o_ HA.out); obtain ⟨z0_, z1_, z2_, z3_, z4_, z5_, z6_, z7_, rfl, rfl, rfl, rfl, _⟩ := o2_.at.shapes; (have HO6 := Lib.hid o2_); (obtain rfl : nn = pa := by rw [hn_, HA.out]); clear hn_; (have HH6 := Lib.hid h_); (have q_ := KNa.out.below h_ (by omega)); (have q_0 := q_.cell 0); (have q_1 := q_.cell 1); (have q_2 := q_.cell 2); (have q_3 := q_.cell 3); (have p_0 := q_.free 0); (have p_1 := q_.free 1); (have p_2 := q_.free 2); (have p_3 := q_.free 3); clear o_ o2_ h_ q_)
                  | ((first | go_at_call 19 | (go_simp; go_at_call 19)); (with_reducible show Calls _ _ _ ((w8.alloc (.cells #[.slice none 0 0, .slice none 0 0, .slice none 0 0, .slice none 0 0] 38)).drew) _); refine (impl_DeskRun _ _ _ _ _ _ _ _ _ D [] ((w8.alloc (.cells #[.slice none 0 0, .slice none 0 0, .slice none 0 0, .slice none 0 0] 38)).drew) (HE.out.below HBb.out) ODb.out (by omega) (by omega) (MES.out _ _ _ (by omega)) (by omega)).mono ?_; rintro e5 w5 ⟨a0, a1, a2, a3, nn, rfl, o_, hn_, h_⟩; (have o2_ := dsk_own o_ HA.out); obtain ⟨z0_, z1_, z2_, z3_, z4_, z5_, z6_, z7_, rfl, rfl, rfl, rfl, _⟩ := o2_.at.shapes; (have HO7 := Lib.hid o2_); (obtain rfl : nn = pa := by rw [hn_, HA.out]); clear hn_; (have HH7 := Lib.hid h_); (have q_ := KNb.out.below h_ (by omega)); (have q_0 := q_.cell 0); (have q_1 := q_.cell 1); (have q_2 := q_.cell 2); (have q_3 := q_.cell 3); (have p_0 := q_.free 0); (have p_1 := q_.free 1); (have p_2 := q_.free 2); (have p_3 := q_.free 3); clear o_ o2_ h_ q_))
                all_goals (
                  go_wp2_with fail
                  go_meet
                  first
                    | with_reducible exact ⟨_, rfl, rfl, Lib.hid (lay1 HO5.out HH5.out)⟩
                    | with_reducible exact ⟨_, rfl, rfl, Lib.hid (lay3 HO5.out HH5.out)⟩
                    | ((have g_ := HO6); exact ⟨_, rfl, rfl, Lib.hid (lay2 HO6.out HH6.out)⟩)
                    | ((have g_ := HO7); exact ⟨_, rfl, rfl, Lib.hid (lay4 HO7.out HH7.out)⟩))
              case rest =>
                obtain ⟨ga, rfl, rfl, HQ⟩ := hcut
                obtain ⟨w9, rfl⟩ : ∃ x, x = wc := ⟨_, rfl⟩
                clear ODd KDd HBa ODa KDa KNa ba_ haz_ d_0 d_1 d_2 d_3 e_0 e_1 e_2 e_3 n_0 n_1 n_2 n_3 m_0 m_1 m_2 m_3 bd_0 bd_1 bd_2 bd_3 bn_0 bn_1 bn_2 bn_3 bm_0 bm_1 bm_2 bm_3 HBb ODb KDb KNb bb_ hbz_
                obtain ⟨u0, u1, u2, u3, K_, O_, hl_, h0_⟩ := HQ.out
                have h_ := bd_.trans (h0_.mono (by omega))
                have hs9 := h_.size
                replace HD := Lib.hid (HD.out.below h_ (by omega)); replace OD := Lib.hid (OD.out.below h_ (by omega)); replace SA := Lib.hid (SA.out.below h_ (by omega)); replace KD := Lib.hid (KD.out.below h_ (by omega)); replace OX := Lib.hid (OX.out.below h_ (by omega)); replace KX := Lib.hid (KX.out.below h_ (by omega))
                replace HB := Lib.hid (HB.out.trans (h_.mono (by omega)))
                have hl_ga : ga < w9.heap.size := K_.lt
                obtain ⟨oa0, oa1, oa2, oa3, oa4, oa5, oa6, oa7, rfl, rfl, rfl, rfl, _⟩ := O_.shapes
                have KA := Lib.hid K_
                have OA := Lib.hid O_
                clear HQ K_ O_ hl_ h0_ h_ bd_ HBd hdz_
                go_upto_region 12 with fail
                have hdz_ : w9.drew.heap.size = w9.heap.size := rfl
                have bd_ : Below w9.heap.size w9 w9.drew := Below.drew (Below.refl _ _)
                have HBd := Lib.hid (HB.out.trans (bd_.mono (by omega)))
                have ODd := Lib.hid (OA.out.below bd_ (by omega))
                have KDd := Lib.hid (KA.out.drew)
                have ba_ : Below w9.drew.heap.size w9.drew (w9.drew.alloc (.cells #[.slice none 0 0, .slice none 0 0, .slice none 0 0, .slice none 0 0] 38)) := al_below _ _
                have haz_ : (w9.drew.alloc (.cells #[.slice none 0 0, .slice none 0 0, .slice none 0 0, .slice none 0 0] 38)).heap.size = w9.heap.size + 1 := alloc_size _ _
                have HBa := Lib.hid (HBd.out.trans (ba_.mono (by omega)))
                have ODa := Lib.hid (ODd.out.below ba_ (by omega))
                have KDa := Lib.hid (KDd.out.below ba_ (by omega))
                have KNa : Hid (Blk w9.heap.size (.cells #[.slice none 0 0, .slice none 0 0, .slice none 0 0, .slice none 0 0] 38) (w9.drew.alloc (.cells #[.slice none 0 0, .slice none 0 0, .slice none 0 0, .slice none 0 0] 38))) := Lib.hid (Blk.new w9.drew _)
                have bb_ : Below w9.heap.size w9 ((w9.alloc (.cells #[.slice none 0 0, .slice none 0 0, .slice none 0 0, .slice none 0 0] 38)).drew) := Below.drew (al_below _ _)
                have hbz_ : ((w9.alloc (.cells #[.slice none 0 0, .slice none 0 0, .slice none 0 0, .slice none 0 0] 38)).drew).heap.size = w9.heap.size + 1 := alloc_size _ _
                have HBb := Lib.hid (HB.out.trans (bb_.mono (by omega)))
                have ODb := Lib.hid (OA.out.below bb_ (by omega))
                have KDb := Lib.hid (KA.out.below bb_ (by omega))
                have KNb : Hid (Blk w9.heap.size (.cells #[.slice none 0 0, .slice none 0 0, .slice none 0 0, .slice none 0 0] 38) ((w9.alloc (.cells #[.slice none 0 0, .slice none 0 0, .slice none 0 0, .slice none 0 0] 38)).drew)) := Lib.hid (Blk.new w9 _)
                have d_0 := KDd.out.cell 0
                have d_1 := KDd.out.cell 1
                have d_2 := KDd.out.cell 2
                have d_3 := KDd.out.cell 3
                have e_0 := KDa.out.cell 0
                have e_1 := KDa.out.cell 1
                have e_2 := KDa.out.cell 2
                have e_3 := KDa.out.cell 3
                have n_0 := KNa.out.cell 0
                have n_1 := KNa.out.cell 1
                have n_2 := KNa.out.cell 2
                have n_3 := KNa.out.cell 3
                have bd_0 := KDb.out.cell 0
                have bd_1 := KDb.out.cell 1
                have bd_2 := KDb.out.cell 2
                have bd_3 := KDb.out.cell 3
                have bn_0 := KNb.out.cell 0
                have bn_1 := KNb.out.cell 1
                have bn_2 := KNb.out.cell 2
                have bn_3 := KNb.out.cell 3
                have bm_0 := KNb.out.free 0
                have bm_1 := KNb.out.free 1
                have bm_2 := KNb.out.free 2
                have bm_3 := KNb.out.free 3
                have m_0 := KNa.out.free 0
                have m_1 := KNa.out.free 1
                have m_2 := KNa.out.free 2
                have m_3 := KNa.out.free 3
                go_cut [14, 15] (fun p n wx => ∃ gA, p = .pointer (some ⟨gA, 0, none⟩) ∧ n = .int .i64 qc ∧ Hid (LayD w9.drew R gA wx))
                case first =>
                  go_region_law (first
                    | ((first | go_at_call 19 | (go_simp; go_at_call 19)); (with_reducible show Calls _ _ _ w9.drew _); refine (impl_DeskRun _ _ _ _ _ _ _ _ _ A [] w9.drew (HE.out.below HBd.out) ODd.out (by omega) (by omega) (MES.out _ _ _ (by omega)) (by omega)).mono ?_; rintro e5 w5 ⟨a0, a1, a2, a3, nn, rfl, o_, hn_, h_⟩; (have o2_ := dsk_own o_ HC.out); obtain ⟨z0_, z1_, z2_, z3_, z4_, z5_, z6_, z7_, rfl, rfl, rfl, rfl, _⟩ := o2_.at.shapes; (have HO5 := Lib.hid o2_); (obtain rfl : nn = qc := by rw [hn_, HC.out]); clear hn_; (have HH5 := Lib.hid h_); (have r_ := Blk.new w5 (.cells #[.slice none 0 0, .slice none 0 0, .slice none 0 0, .slice none 0 0] 38)); (have r_0 := r_.cell 0); (have r_1 := r_.cell 1); (have r_2 := r_.cell 2); (have r_3 := r_.cell 3); (have t_0 := r_.free 0); (have t_1 := r_.free 1); (have t_2 := r_.free 2); (have t_3 := r_.free 3); clear o_ o2_ h_ r_)
                    | ((first | go_at_call 19 | (go_simp; go_at_call 19)); (with_reducible show Calls _ _ _ (w9.drew.alloc (.cells #[.slice none 0 0, .slice none 0 0, .slice none 0 0, .slice none 0 0] 38)) _); refine (impl_DeskRun _ _ _ _ _ _ _ _ _ A [] (w9.drew.alloc (.cells #[.slice none 0 0, .slice none 0 0, .slice none 0 0, .slice none 0 0] 38)) (HE.out.below HBa.out) ODa.out (by omega) (by omega) (MES.out _ _ _ (by omega)) (by omega)).mono ?_; rintro e5 w5 ⟨a0, a1, a2, a3, nn, rfl, o_, hn_, h_⟩; (have o2_ := dsk_own o_ HC.out); obtain ⟨z0_, z1_, z2_, z3_, z4_, z5_, z6_, z7_, rfl, rfl, rfl, rfl, _⟩ := o2_.at.shapes; (have HO6 := Lib.hid o2_); (obtain rfl : nn = qc := by rw [hn_, HC.out]); clear hn_; (have HH6 := Lib.hid h_); (have q_ := KNa.out.below h_ (by omega)); (have q_0 := q_.cell 0); (have q_1 := q_.cell 1); (have q_2 := q_.cell 2); (have q_3 := q_.cell 3); (have p_0 := q_.free 0); (have p_1 := q_.free 1); (have p_2 := q_.free 2); (have p_3 := q_.free 3); clear o_ o2_ h_ q_)
                    | ((first | go_at_call 19 | (go_simp; go_at_call 19)); (with_reducible show Calls _ _ _ ((w9.alloc (.cells #[.slice none 0 0, .slice none 0 0, .slice none 0 0, .slice none 0 0] 38)).drew) _); refine (impl_DeskRun _ _ _ _ _ _ _ _ _ A [] ((w9.alloc (.cells #[.slice none 0 0, .slice none 0 0, .slice none 0 0, .slice none 0 0] 38)).drew) (HE.out.below HBb.out) ODb.out (by omega) (by omega) (MES.out _ _ _ (by omega)) (by omega)).mono ?_; rintro e5 w5 ⟨a0, a1, a2, a3, nn, rfl, o_, hn_, h_⟩; (have o2_ := dsk_own o_ HC.out); obtain ⟨z0_, z1_, z2_, z3_, z4_, z5_, z6_, z7_, rfl, rfl, rfl, rfl, _⟩ := o2_.at.shapes; (have HO7 := Lib.hid o2_); (obtain rfl : nn = qc := by rw [hn_, HC.out]); clear hn_; (have HH7 := Lib.hid h_); (have q_ := KNb.out.below h_ (by omega)); (have q_0 := q_.cell 0); (have q_1 := q_.cell 1); (have q_2 := q_.cell 2); (have q_3 := q_.cell 3); (have p_0 := q_.free 0); (have p_1 := q_.free 1); (have p_2 := q_.free 2); (have p_3 := q_.free 3); clear o_ o2_ h_ q_))
                  all_goals (
                    go_wp2_with fail
                    go_meet
                    first
                      | with_reducible exact ⟨_, rfl, rfl, Lib.hid (lay1 HO5.out HH5.out)⟩
                      | with_reducible exact ⟨_, rfl, rfl, Lib.hid (lay3 HO5.out HH5.out)⟩
                      | ((have g_ := HO6); exact ⟨_, rfl, rfl, Lib.hid (lay2 HO6.out HH6.out)⟩)
                      | ((have g_ := HO7); exact ⟨_, rfl, rfl, Lib.hid (lay4 HO7.out HH7.out)⟩))
                case rest =>
                  obtain ⟨gc, rfl, rfl, HQ⟩ := hcut
                  obtain ⟨w10, rfl⟩ : ∃ x, x = wc := ⟨_, rfl⟩
                  clear ODd KDd HBa ODa KDa KNa ba_ haz_ d_0 d_1 d_2 d_3 e_0 e_1 e_2 e_3 n_0 n_1 n_2 n_3 m_0 m_1 m_2 m_3 bd_0 bd_1 bd_2 bd_3 bn_0 bn_1 bn_2 bn_3 bm_0 bm_1 bm_2 bm_3 HBb ODb KDb KNb bb_ hbz_
                  obtain ⟨u0, u1, u2, u3, K_, O_, hl_, h0_⟩ := HQ.out
                  have h_ := bd_.trans (h0_.mono (by omega))
                  have hs10 := h_.size
                  replace HD := Lib.hid (HD.out.below h_ (by omega)); replace OD := Lib.hid (OD.out.below h_ (by omega)); replace SA := Lib.hid (SA.out.below h_ (by omega)); replace KD := Lib.hid (KD.out.below h_ (by omega)); replace OX := Lib.hid (OX.out.below h_ (by omega)); replace KX := Lib.hid (KX.out.below h_ (by omega)); replace KA := Lib.hid (KA.out.below h_ (by omega)); replace OA := Lib.hid (OA.out.below h_ (by omega))
                  replace HB := Lib.hid (HB.out.trans (h_.mono (by omega)))
                  have hl_gc : gc < w10.heap.size := K_.lt
                  obtain ⟨oc0, oc1, oc2, oc3, oc4, oc5, oc6, oc7, rfl, rfl, rfl, rfl, _⟩ := O_.shapes
                  have KC := Lib.hid K_
                  have OC := Lib.hid O_
                  clear HQ K_ O_ hl_ h0_ h_ bd_ HBd hdz_
                  go_wp2_with fail
                  refine (DrawRowsOf_any _ ds _ (SlB.wide HD.out (by omega))).mono ?_
                  rintro e w11 ⟨⟨mn, mp, mq, macts⟩, mva, mve, mes, rfl, hM_, hV_, hle_, h_⟩
                  have hs11 := h_.size
                  replace OX := Lib.hid (OX.out.below h_ (by omega)); replace KX := Lib.hid (KX.out.below h_ (by omega)); replace KC := Lib.hid (KC.out.below h_ (by omega)); replace OC := Lib.hid (OC.out.below h_ (by omega))
                  replace HB := Lib.hid (HB.out.trans (h_.mono (by omega)))
                  have HM := Lib.hid hM_
                  obtain ⟨ma, mc, rfl, _, _⟩ := hM_.1.shape
                  obtain ⟨ea, ec, rfl, _, _⟩ := Sl.shape hV_
                  clear h_ hM_ hV_
                  obtain ⟨w12, hw_⟩ : ∃ w_, w_ = w11.alloc (.cells #[(.int .i64 mn), (.int .i64 mp), (.int .i64 mq), (.slice ma macts.length mc)] 31) := ⟨_, rfl⟩
                  obtain ⟨h_, K_, hs12⟩ := box_facts2 hw_
                  replace OX := Lib.hid (OX.out.below h_ (by omega)); replace KX := Lib.hid (KX.out.below h_ (by omega)); replace KC := Lib.hid (KC.out.below h_ (by omega)); replace OC := Lib.hid (OC.out.below h_ (by omega))
                  replace HB := Lib.hid (HB.out.trans (h_.mono (by omega)))
                  replace HM := Lib.hid (HM.out.below h_)
                  obtain ⟨gm, hg_⟩ : ∃ g_, g_ = w11.heap.size := ⟨_, rfl⟩
                  rw [← hg_] at K_
                  have KM := Lib.hid K_
                  have hl_gm : gm < w12.heap.size := by omega
                  have HW_ := Lib.hid hw_
                  clear h_ K_ hw_
                  go_upto_region 14 with fail
                  simp only [← HW_.out, ← hg_]
                  clear HW_ hg_
                  go_upto_region 14 with fail
                  have bd_ : Below w12.heap.size w12 w12.drew := Below.drew (Below.refl _ _)
                  have hdz_ : w12.drew.heap.size = w12.heap.size := rfl
                  have KXd := Lib.hid (KX.out.below bd_ (by omega))
                  have KCd := Lib.hid (KC.out.below bd_ (by omega))
                  have KMd := Lib.hid (KM.out.below bd_ (by omega))
                  have OXd := Lib.hid (OX.out.below bd_ (by omega))
                  have OCd := Lib.hid (OC.out.below bd_ (by omega))
                  have HMd := Lib.hid (HM.out.below (bd_.mono (by omega)))
                  have HBd := Lib.hid (HB.out.trans (bd_.mono (by omega)))
                  have vdx0 := KXd.out.cell 0
                  have vdx1 := KXd.out.cell 1
                  have vdx2 := KXd.out.cell 2
                  have vdx3 := KXd.out.cell 3
                  have vdc0 := KCd.out.cell 0
                  have vdc1 := KCd.out.cell 1
                  have vdc2 := KCd.out.cell 2
                  have vdc3 := KCd.out.cell 3
                  have vdm0 := KMd.out.cell 0
                  have vdm1 := KMd.out.cell 1
                  have vdm2 := KMd.out.cell 2
                  have vdm3 := KMd.out.cell 3
                  have hfl : R.first.length ≤ 1048576 ∧ R.now.length ≤ 1048576 := by have h := hRs; unfold Dsk.size at h; omega
                  have hrl := rowsV_len ⟨mn, mp, mq, macts⟩ R.now
                  have hrx : rowsV ⟨mn, mp, mq, macts⟩ R.first = rowsV ⟨mn, mp, mq, macts⟩ R.now := desk_rows _ HVR.out
                  obtain ⟨rs, hrs⟩ : ∃ rs, rowsV ⟨mn, mp, mq, macts⟩ R.now = rs := ⟨_, rfl⟩
                  rw [hrs] at hrl hrx
                  have HRX := Lib.hid hrx
                  have HRS := Lib.hid hrs
                  clear hrx hrs
                  go_region_held3 (fun w' => w'.cell? ⟨gx, 0, none⟩ = some (.slice x0 R.first.length x1) ∧ w'.cell? ⟨gx, 1, none⟩ = some (.slice x2 R.goal.length x3) ∧ w'.cell? ⟨gx, 2, none⟩ = some (.slice x4 R.made.length x5) ∧ w'.cell? ⟨gx, 3, none⟩ = some (.slice x6 R.now.length x7) ∧ w'.cell? ⟨gc, 0, none⟩ = some (.slice oc0 R.first.length oc1) ∧ w'.cell? ⟨gc, 1, none⟩ = some (.slice oc2 R.goal.length oc3) ∧ w'.cell? ⟨gc, 2, none⟩ = some (.slice oc4 R.made.length oc5) ∧ w'.cell? ⟨gc, 3, none⟩ = some (.slice oc6 R.now.length oc7) ∧ w'.cell? ⟨gm, 0, none⟩ = some (.int .i64 mn) ∧ w'.cell? ⟨gm, 1, none⟩ = some (.int .i64 mp) ∧ w'.cell? ⟨gm, 2, none⟩ = some (.int .i64 mq) ∧ w'.cell? ⟨gm, 3, none⟩ = some (.slice ma macts.length mc)) (first | with_reducible assumption | go_keep) (first
                    | ((have g_ := OT); go_at_call 11; refine (sameInts_same _ _ _ _ _ _ rs _ OS.out OT.out (by omega)).mono ?_; rintro e95 w95 ⟨rfl, h_⟩; (have hs95 := h_.size); (have k95x_ := KX94.out.below h_ (by omega)); (have k95c_ := KC94.out.below h_ (by omega)); (have k95m_ := KM94.out.below h_ (by omega)); (have v95x0 := k95x_.cell 0); (have v95x1 := k95x_.cell 1); (have v95x2 := k95x_.cell 2); (have v95x3 := k95x_.cell 3); (have v95c0 := k95c_.cell 0); (have v95c1 := k95c_.cell 1); (have v95c2 := k95c_.cell 2); (have v95c3 := k95c_.cell 3); (have v95m0 := k95m_.cell 0); (have v95m1 := k95m_.cell 1); (have v95m2 := k95m_.cell 2); (have v95m3 := k95m_.cell 3); (have KX95 := Lib.hid k95x_); (have KC95 := Lib.hid k95c_); (have KM95 := Lib.hid k95m_);  (have HM95 := Lib.hid (HM94.out.below (h_.mono (by omega)))); (have HB95 := Lib.hid (HB94.out.trans (h_.mono (by omega)))); clear h_ g_)
                    | ((have g_ := OS0); go_at_call 17; refine (impl_RowsOf _ _ _ _ ⟨mn, mp, mq, macts⟩ _ _ R.now _ HM93.out.1 (by omega) (by have := HM93.out.2.1; simp only at this ⊢; omega) (fun x h => by have := HM93.out.2.2 x h; omega) OX93.out.now (by omega) (by omega)).mono ?_; rintro e94 w94 ⟨v94, rfl, o_, h_⟩; rw [HRS.out] at o_; (have hs94 := h_.size); obtain ⟨ta, tc, rfl, _⟩ := Own.open o_; (have k94x_ := KX93.out.below h_ (by omega)); (have k94c_ := KC93.out.below h_ (by omega)); (have k94m_ := KM93.out.below h_ (by omega)); (have v94x0 := k94x_.cell 0); (have v94x1 := k94x_.cell 1); (have v94x2 := k94x_.cell 2); (have v94x3 := k94x_.cell 3); (have v94c0 := k94c_.cell 0); (have v94c1 := k94c_.cell 1); (have v94c2 := k94c_.cell 2); (have v94c3 := k94c_.cell 3); (have v94m0 := k94m_.cell 0); (have v94m1 := k94m_.cell 1); (have v94m2 := k94m_.cell 2); (have v94m3 := k94m_.cell 3); (have KX94 := Lib.hid k94x_); (have KC94 := Lib.hid k94c_); (have KM94 := Lib.hid k94m_);  (have HM94 := Lib.hid (HM93.out.below (h_.mono (by omega)))); (have HB94 := Lib.hid (HB93.out.trans (h_.mono (by omega)))); (have OS := Lib.hid (OS0.out.below h_ (by omega))); (have OT := Lib.hid o_.sl); clear h_ o_ g_)
                    | ((have g_ := HB92); go_at_call 17; refine (impl_RowsOf _ _ _ _ ⟨mn, mp, mq, macts⟩ _ _ R.first _ HM92.out.1 (by omega) (by have := HM92.out.2.1; simp only at this ⊢; omega) (fun x h => by have := HM92.out.2.2 x h; omega) OX92.out.first (by omega) (by omega)).mono ?_; rintro e93 w93 ⟨v93, rfl, o_, h_⟩; rw [HRX.out] at o_; (have hs93 := h_.size); obtain ⟨ra, rc, rfl, _⟩ := Own.open o_; (have k93x_ := KX92.out.below h_ (by omega)); (have k93c_ := KC92.out.below h_ (by omega)); (have k93m_ := KM92.out.below h_ (by omega)); (have v93x0 := k93x_.cell 0); (have v93x1 := k93x_.cell 1); (have v93x2 := k93x_.cell 2); (have v93x3 := k93x_.cell 3); (have v93c0 := k93c_.cell 0); (have v93c1 := k93c_.cell 1); (have v93c2 := k93c_.cell 2); (have v93c3 := k93c_.cell 3); (have v93m0 := k93m_.cell 0); (have v93m1 := k93m_.cell 1); (have v93m2 := k93m_.cell 2); (have v93m3 := k93m_.cell 3); (have KX93 := Lib.hid k93x_); (have KC93 := Lib.hid k93c_); (have KM93 := Lib.hid k93m_); (have OX93 := Lib.hid (OX92.out.below h_ (by omega))); (have HM93 := Lib.hid (HM92.out.below (h_.mono (by omega)))); (have HB93 := Lib.hid (HB92.out.trans (h_.mono (by omega)))); (have OS0 := Lib.hid o_.sl); clear h_ o_ g_)
                    | ((have g_ := HB91); go_at_call 21; refine (sameDesk_eq _ _ _ _ _ _ _ _ _ _ _ _ R _ OC91.out OX91.out (by omega) (by omega) hRs).mono ?_; rintro e92 w92 ⟨rfl, h_⟩; (have hs92 := h_.size); (have k92x_ := KX91.out.below h_ (by omega)); (have k92c_ := KC91.out.below h_ (by omega)); (have k92m_ := KM91.out.below h_ (by omega)); (have v92x0 := k92x_.cell 0); (have v92x1 := k92x_.cell 1); (have v92x2 := k92x_.cell 2); (have v92x3 := k92x_.cell 3); (have v92c0 := k92c_.cell 0); (have v92c1 := k92c_.cell 1); (have v92c2 := k92c_.cell 2); (have v92c3 := k92c_.cell 3); (have v92m0 := k92m_.cell 0); (have v92m1 := k92m_.cell 1); (have v92m2 := k92m_.cell 2); (have v92m3 := k92m_.cell 3); (have KX92 := Lib.hid k92x_); (have KC92 := Lib.hid k92c_); (have KM92 := Lib.hid k92m_); (have OX92 := Lib.hid (OX91.out.below h_ (by omega))); (have HM92 := Lib.hid (HM91.out.below (h_.mono (by omega)))); (have HB92 := Lib.hid (HB91.out.trans (h_.mono (by omega)))); clear h_ g_)
                    | (go_at_call 24; refine (impl_DeskValid _ _ _ _ _ _ R _ (HE.out.below HBd.out) OXd.out (by omega) hRs).mono ?_; rintro e91 w91 ⟨rfl, h_⟩; rw [HVR.out]; (have hs91 := h_.size); (have k91x_ := KXd.out.below h_ (by omega)); (have k91c_ := KCd.out.below h_ (by omega)); (have k91m_ := KMd.out.below h_ (by omega)); (have v91x0 := k91x_.cell 0); (have v91x1 := k91x_.cell 1); (have v91x2 := k91x_.cell 2); (have v91x3 := k91x_.cell 3); (have v91c0 := k91c_.cell 0); (have v91c1 := k91c_.cell 1); (have v91c2 := k91c_.cell 2); (have v91c3 := k91c_.cell 3); (have v91m0 := k91m_.cell 0); (have v91m1 := k91m_.cell 1); (have v91m2 := k91m_.cell 2); (have v91m3 := k91m_.cell 3); (have KX91 := Lib.hid k91x_); (have KC91 := Lib.hid k91c_); (have KM91 := Lib.hid k91m_); (have OX91 := Lib.hid (OXd.out.below h_ (by omega))); (have OC91 := Lib.hid (OCd.out.below h_ (by omega))); (have HM91 := Lib.hid (HMd.out.below (h_.mono (by omega)))); (have HB91 := Lib.hid (HBd.out.trans (h_.mono (by omega)))); clear h_))
                  go_wp2
                  go_ret
                  exact ⟨rfl, HB95.out⟩
        · skip
          have SF := Lib.hid (hLt ▸ SlA.frontA SA.out h hh1)
          have SD := Lib.hid (hLd ▸ SlA.dropA SA.out h hh1)
          clear hLt hLd
          go_upto_region 11 with fail
          have hdz_ : w8.drew.heap.size = w8.heap.size := rfl
          have bd_ : Below w8.heap.size w8 w8.drew := Below.drew (Below.refl _ _)
          have HBd := Lib.hid (HB.out.trans (bd_.mono (by omega)))
          have ODd := Lib.hid (OD.out.below bd_ (by omega))
          have SAd := Lib.hid (SF.out.below bd_ (by omega))
          have KDd := Lib.hid (KD.out.drew)
          have ba_ : Below w8.drew.heap.size w8.drew (w8.drew.alloc (.cells #[.slice none 0 0, .slice none 0 0, .slice none 0 0, .slice none 0 0] 38)) := al_below _ _
          have haz_ : (w8.drew.alloc (.cells #[.slice none 0 0, .slice none 0 0, .slice none 0 0, .slice none 0 0] 38)).heap.size = w8.heap.size + 1 := alloc_size _ _
          have HBa := Lib.hid (HBd.out.trans (ba_.mono (by omega)))
          have ODa := Lib.hid (ODd.out.below ba_ (by omega))
          have SAa := Lib.hid (SAd.out.below ba_ (by omega))
          have KDa := Lib.hid (KDd.out.below ba_ (by omega))
          have KNa : Hid (Blk w8.heap.size (.cells #[.slice none 0 0, .slice none 0 0, .slice none 0 0, .slice none 0 0] 38) (w8.drew.alloc (.cells #[.slice none 0 0, .slice none 0 0, .slice none 0 0, .slice none 0 0] 38))) := Lib.hid (Blk.new w8.drew _)
          have bb_ : Below w8.heap.size w8 ((w8.alloc (.cells #[.slice none 0 0, .slice none 0 0, .slice none 0 0, .slice none 0 0] 38)).drew) := Below.drew (al_below _ _)
          have hbz_ : ((w8.alloc (.cells #[.slice none 0 0, .slice none 0 0, .slice none 0 0, .slice none 0 0] 38)).drew).heap.size = w8.heap.size + 1 := alloc_size _ _
          have HBb := Lib.hid (HB.out.trans (bb_.mono (by omega)))
          have ODb := Lib.hid (OD.out.below bb_ (by omega))
          have SAb := Lib.hid (SF.out.below bb_ (by omega))
          have KDb := Lib.hid (KD.out.below bb_ (by omega))
          have KNb : Hid (Blk w8.heap.size (.cells #[.slice none 0 0, .slice none 0 0, .slice none 0 0, .slice none 0 0] 38) ((w8.alloc (.cells #[.slice none 0 0, .slice none 0 0, .slice none 0 0, .slice none 0 0] 38)).drew)) := Lib.hid (Blk.new w8 _)
          have d_0 := KDd.out.cell 0
          have d_1 := KDd.out.cell 1
          have d_2 := KDd.out.cell 2
          have d_3 := KDd.out.cell 3
          have e_0 := KDa.out.cell 0
          have e_1 := KDa.out.cell 1
          have e_2 := KDa.out.cell 2
          have e_3 := KDa.out.cell 3
          have n_0 := KNa.out.cell 0
          have n_1 := KNa.out.cell 1
          have n_2 := KNa.out.cell 2
          have n_3 := KNa.out.cell 3
          have bd_0 := KDb.out.cell 0
          have bd_1 := KDb.out.cell 1
          have bd_2 := KDb.out.cell 2
          have bd_3 := KDb.out.cell 3
          have bn_0 := KNb.out.cell 0
          have bn_1 := KNb.out.cell 1
          have bn_2 := KNb.out.cell 2
          have bn_3 := KNb.out.cell 3
          have bm_0 := KNb.out.free 0
          have bm_1 := KNb.out.free 1
          have bm_2 := KNb.out.free 2
          have bm_3 := KNb.out.free 3
          have m_0 := KNa.out.free 0
          have m_1 := KNa.out.free 1
          have m_2 := KNa.out.free 2
          have m_3 := KNa.out.free 3
          go_cut [12, 13] (fun p n wx => ∃ gA, p = .pointer (some ⟨gA, 0, none⟩) ∧ n = .int .i64 pa ∧ Hid (LayD w8.drew A gA wx))
          case first =>
            go_region_law (first
              | ((first | go_at_call 19 | (go_simp; go_at_call 19)); (with_reducible show Calls _ _ _ w8.drew _); refine (impl_DeskRun _ _ _ _ _ _ _ _ _ D Lt w8.drew (HE.out.below HBd.out) ODd.out (by omega) (by omega) SAd.out (by omega)).mono ?_; rintro e5 w5 ⟨a0, a1, a2, a3, nn, rfl, o_, hn_, h_⟩; (have o2_ := dsk_own o_ HA.out); obtain ⟨z0_, z1_, z2_, z3_, z4_, z5_, z6_, z7_, rfl, rfl, rfl, rfl, _⟩ := o2_.at.shapes; (have HO5 := Lib.hid o2_); (obtain rfl : nn = pa := by rw [hn_, HA.out]); clear hn_; (have HH5 := Lib.hid h_); (have r_ := Blk.new w5 (.cells #[.slice none 0 0, .slice none 0 0, .slice none 0 0, .slice none 0 0] 38)); (have r_0 := r_.cell 0); (have r_1 := r_.cell 1); (have r_2 := r_.cell 2); (have r_3 := r_.cell 3); (have t_0 := r_.free 0); (have t_1 := r_.free 1); (have t_2 := r_.free 2); (have t_3 := r_.free 3); clear o_ o2_ h_ r_)
              | ((first | go_at_call 19 | (go_simp; go_at_call 19)); (with_reducible show Calls _ _ _ (w8.drew.alloc (.cells #[.slice none 0 0, .slice none 0 0, .slice none 0 0, .slice none 0 0] 38)) _); refine (impl_DeskRun _ _ _ _ _ _ _ _ _ D Lt (w8.drew.alloc (.cells #[.slice none 0 0, .slice none 0 0, .slice none 0 0, .slice none 0 0] 38)) (HE.out.below HBa.out) ODa.out (by omega) (by omega) SAa.out (by omega)).mono ?_; rintro e5 w5 ⟨a0, a1, a2, a3, nn, rfl, o_, hn_, h_⟩; (have o2_ := dsk_own o_ HA.out); obtain ⟨z0_, z1_, z2_, z3_, z4_, z5_, z6_, z7_, rfl, rfl, rfl, rfl, _⟩ := o2_.at.shapes; (have HO6 := Lib.hid o2_); (obtain rfl : nn = pa := by rw [hn_, HA.out]); clear hn_; (have HH6 := Lib.hid h_); (have q_ := KNa.out.below h_ (by omega)); (have q_0 := q_.cell 0); (have q_1 := q_.cell 1); (have q_2 := q_.cell 2); (have q_3 := q_.cell 3); (have p_0 := q_.free 0); (have p_1 := q_.free 1); (have p_2 := q_.free 2); (have p_3 := q_.free 3); clear o_ o2_ h_ q_)
              | ((first | go_at_call 19 | (go_simp; go_at_call 19)); (with_reducible show Calls _ _ _ ((w8.alloc (.cells #[.slice none 0 0, .slice none 0 0, .slice none 0 0, .slice none 0 0] 38)).drew) _); refine (impl_DeskRun _ _ _ _ _ _ _ _ _ D Lt ((w8.alloc (.cells #[.slice none 0 0, .slice none 0 0, .slice none 0 0, .slice none 0 0] 38)).drew) (HE.out.below HBb.out) ODb.out (by omega) (by omega) SAb.out (by omega)).mono ?_; rintro e5 w5 ⟨a0, a1, a2, a3, nn, rfl, o_, hn_, h_⟩; (have o2_ := dsk_own o_ HA.out); obtain ⟨z0_, z1_, z2_, z3_, z4_, z5_, z6_, z7_, rfl, rfl, rfl, rfl, _⟩ := o2_.at.shapes; (have HO7 := Lib.hid o2_); (obtain rfl : nn = pa := by rw [hn_, HA.out]); clear hn_; (have HH7 := Lib.hid h_); (have q_ := KNb.out.below h_ (by omega)); (have q_0 := q_.cell 0); (have q_1 := q_.cell 1); (have q_2 := q_.cell 2); (have q_3 := q_.cell 3); (have p_0 := q_.free 0); (have p_1 := q_.free 1); (have p_2 := q_.free 2); (have p_3 := q_.free 3); clear o_ o2_ h_ q_))
            all_goals (
              go_wp2_with fail
              go_meet
              first
                | with_reducible exact ⟨_, rfl, rfl, Lib.hid (lay1 HO5.out HH5.out)⟩
                | with_reducible exact ⟨_, rfl, rfl, Lib.hid (lay3 HO5.out HH5.out)⟩
                | ((have g_ := HO6); exact ⟨_, rfl, rfl, Lib.hid (lay2 HO6.out HH6.out)⟩)
                | ((have g_ := HO7); exact ⟨_, rfl, rfl, Lib.hid (lay4 HO7.out HH7.out)⟩))
          case rest =>
            obtain ⟨ga, rfl, rfl, HQ⟩ := hcut
            obtain ⟨w9, rfl⟩ : ∃ x, x = wc := ⟨_, rfl⟩
            clear ODd KDd HBa ODa KDa KNa ba_ haz_ d_0 d_1 d_2 d_3 e_0 e_1 e_2 e_3 n_0 n_1 n_2 n_3 m_0 m_1 m_2 m_3 bd_0 bd_1 bd_2 bd_3 bn_0 bn_1 bn_2 bn_3 bm_0 bm_1 bm_2 bm_3 HBb ODb KDb KNb bb_ hbz_ SAd SAa SAb
            obtain ⟨u0, u1, u2, u3, K_, O_, hl_, h0_⟩ := HQ.out
            have h_ := bd_.trans (h0_.mono (by omega))
            have hs9 := h_.size
            replace HD := Lib.hid (HD.out.below h_ (by omega)); replace OD := Lib.hid (OD.out.below h_ (by omega)); replace SA := Lib.hid (SA.out.below h_ (by omega)); replace KD := Lib.hid (KD.out.below h_ (by omega)); replace OX := Lib.hid (OX.out.below h_ (by omega)); replace KX := Lib.hid (KX.out.below h_ (by omega)); replace SF := Lib.hid (SF.out.below h_ (by omega)); replace SD := Lib.hid (SD.out.below h_ (by omega))
            replace HB := Lib.hid (HB.out.trans (h_.mono (by omega)))
            have hl_ga : ga < w9.heap.size := K_.lt
            obtain ⟨oa0, oa1, oa2, oa3, oa4, oa5, oa6, oa7, rfl, rfl, rfl, rfl, _⟩ := O_.shapes
            have KA := Lib.hid K_
            have OA := Lib.hid O_
            clear HQ K_ O_ hl_ h0_ h_ bd_ HBd hdz_
            go_upto_region 12 with fail
            have hdz_ : w9.drew.heap.size = w9.heap.size := rfl
            have bd_ : Below w9.heap.size w9 w9.drew := Below.drew (Below.refl _ _)
            have HBd := Lib.hid (HB.out.trans (bd_.mono (by omega)))
            have ODd := Lib.hid (OA.out.below bd_ (by omega))
            have SAd := Lib.hid (SD.out.below bd_ (by omega))
            have KDd := Lib.hid (KA.out.drew)
            have ba_ : Below w9.drew.heap.size w9.drew (w9.drew.alloc (.cells #[.slice none 0 0, .slice none 0 0, .slice none 0 0, .slice none 0 0] 38)) := al_below _ _
            have haz_ : (w9.drew.alloc (.cells #[.slice none 0 0, .slice none 0 0, .slice none 0 0, .slice none 0 0] 38)).heap.size = w9.heap.size + 1 := alloc_size _ _
            have HBa := Lib.hid (HBd.out.trans (ba_.mono (by omega)))
            have ODa := Lib.hid (ODd.out.below ba_ (by omega))
            have SAa := Lib.hid (SAd.out.below ba_ (by omega))
            have KDa := Lib.hid (KDd.out.below ba_ (by omega))
            have KNa : Hid (Blk w9.heap.size (.cells #[.slice none 0 0, .slice none 0 0, .slice none 0 0, .slice none 0 0] 38) (w9.drew.alloc (.cells #[.slice none 0 0, .slice none 0 0, .slice none 0 0, .slice none 0 0] 38))) := Lib.hid (Blk.new w9.drew _)
            have bb_ : Below w9.heap.size w9 ((w9.alloc (.cells #[.slice none 0 0, .slice none 0 0, .slice none 0 0, .slice none 0 0] 38)).drew) := Below.drew (al_below _ _)
            have hbz_ : ((w9.alloc (.cells #[.slice none 0 0, .slice none 0 0, .slice none 0 0, .slice none 0 0] 38)).drew).heap.size = w9.heap.size + 1 := alloc_size _ _
            have HBb := Lib.hid (HB.out.trans (bb_.mono (by omega)))
            have ODb := Lib.hid (OA.out.below bb_ (by omega))
            have SAb := Lib.hid (SD.out.below bb_ (by omega))
            have KDb := Lib.hid (KA.out.below bb_ (by omega))
            have KNb : Hid (Blk w9.heap.size (.cells #[.slice none 0 0, .slice none 0 0, .slice none 0 0, .slice none 0 0] 38) ((w9.alloc (.cells #[.slice none 0 0, .slice none 0 0, .slice none 0 0, .slice none 0 0] 38)).drew)) := Lib.hid (Blk.new w9 _)
            have d_0 := KDd.out.cell 0
            have d_1 := KDd.out.cell 1
            have d_2 := KDd.out.cell 2
            have d_3 := KDd.out.cell 3
            have e_0 := KDa.out.cell 0
            have e_1 := KDa.out.cell 1
            have e_2 := KDa.out.cell 2
            have e_3 := KDa.out.cell 3
            have n_0 := KNa.out.cell 0
            have n_1 := KNa.out.cell 1
            have n_2 := KNa.out.cell 2
            have n_3 := KNa.out.cell 3
            have bd_0 := KDb.out.cell 0
            have bd_1 := KDb.out.cell 1
            have bd_2 := KDb.out.cell 2
            have bd_3 := KDb.out.cell 3
            have bn_0 := KNb.out.cell 0
            have bn_1 := KNb.out.cell 1
            have bn_2 := KNb.out.cell 2
            have bn_3 := KNb.out.cell 3
            have bm_0 := KNb.out.free 0
            have bm_1 := KNb.out.free 1
            have bm_2 := KNb.out.free 2
            have bm_3 := KNb.out.free 3
            have m_0 := KNa.out.free 0
            have m_1 := KNa.out.free 1
            have m_2 := KNa.out.free 2
            have m_3 := KNa.out.free 3
            go_cut [14, 15] (fun p n wx => ∃ gA, p = .pointer (some ⟨gA, 0, none⟩) ∧ n = .int .i64 qc ∧ Hid (LayD w9.drew R gA wx))
            case first =>
              go_region_law (first
                | ((first | go_at_call 19 | (go_simp; go_at_call 19)); (with_reducible show Calls _ _ _ w9.drew _); refine (impl_DeskRun _ _ _ _ _ _ _ _ _ A Ld w9.drew (HE.out.below HBd.out) ODd.out (by omega) (by omega) SAd.out (by omega)).mono ?_; rintro e5 w5 ⟨a0, a1, a2, a3, nn, rfl, o_, hn_, h_⟩; (have o2_ := dsk_own o_ HC.out); obtain ⟨z0_, z1_, z2_, z3_, z4_, z5_, z6_, z7_, rfl, rfl, rfl, rfl, _⟩ := o2_.at.shapes; (have HO5 := Lib.hid o2_); (obtain rfl : nn = qc := by rw [hn_, HC.out]); clear hn_; (have HH5 := Lib.hid h_); (have r_ := Blk.new w5 (.cells #[.slice none 0 0, .slice none 0 0, .slice none 0 0, .slice none 0 0] 38)); (have r_0 := r_.cell 0); (have r_1 := r_.cell 1); (have r_2 := r_.cell 2); (have r_3 := r_.cell 3); (have t_0 := r_.free 0); (have t_1 := r_.free 1); (have t_2 := r_.free 2); (have t_3 := r_.free 3); clear o_ o2_ h_ r_)
                | ((first | go_at_call 19 | (go_simp; go_at_call 19)); (with_reducible show Calls _ _ _ (w9.drew.alloc (.cells #[.slice none 0 0, .slice none 0 0, .slice none 0 0, .slice none 0 0] 38)) _); refine (impl_DeskRun _ _ _ _ _ _ _ _ _ A Ld (w9.drew.alloc (.cells #[.slice none 0 0, .slice none 0 0, .slice none 0 0, .slice none 0 0] 38)) (HE.out.below HBa.out) ODa.out (by omega) (by omega) SAa.out (by omega)).mono ?_; rintro e5 w5 ⟨a0, a1, a2, a3, nn, rfl, o_, hn_, h_⟩; (have o2_ := dsk_own o_ HC.out); obtain ⟨z0_, z1_, z2_, z3_, z4_, z5_, z6_, z7_, rfl, rfl, rfl, rfl, _⟩ := o2_.at.shapes; (have HO6 := Lib.hid o2_); (obtain rfl : nn = qc := by rw [hn_, HC.out]); clear hn_; (have HH6 := Lib.hid h_); (have q_ := KNa.out.below h_ (by omega)); (have q_0 := q_.cell 0); (have q_1 := q_.cell 1); (have q_2 := q_.cell 2); (have q_3 := q_.cell 3); (have p_0 := q_.free 0); (have p_1 := q_.free 1); (have p_2 := q_.free 2); (have p_3 := q_.free 3); clear o_ o2_ h_ q_)
                | ((first | go_at_call 19 | (go_simp; go_at_call 19)); (with_reducible show Calls _ _ _ ((w9.alloc (.cells #[.slice none 0 0, .slice none 0 0, .slice none 0 0, .slice none 0 0] 38)).drew) _); refine (impl_DeskRun _ _ _ _ _ _ _ _ _ A Ld ((w9.alloc (.cells #[.slice none 0 0, .slice none 0 0, .slice none 0 0, .slice none 0 0] 38)).drew) (HE.out.below HBb.out) ODb.out (by omega) (by omega) SAb.out (by omega)).mono ?_; rintro e5 w5 ⟨a0, a1, a2, a3, nn, rfl, o_, hn_, h_⟩; (have o2_ := dsk_own o_ HC.out); obtain ⟨z0_, z1_, z2_, z3_, z4_, z5_, z6_, z7_, rfl, rfl, rfl, rfl, _⟩ := o2_.at.shapes; (have HO7 := Lib.hid o2_); (obtain rfl : nn = qc := by rw [hn_, HC.out]); clear hn_; (have HH7 := Lib.hid h_); (have q_ := KNb.out.below h_ (by omega)); (have q_0 := q_.cell 0); (have q_1 := q_.cell 1); (have q_2 := q_.cell 2); (have q_3 := q_.cell 3); (have p_0 := q_.free 0); (have p_1 := q_.free 1); (have p_2 := q_.free 2); (have p_3 := q_.free 3); clear o_ o2_ h_ q_))
              all_goals (
                go_wp2_with fail
                go_meet
                first
                  | with_reducible exact ⟨_, rfl, rfl, Lib.hid (lay1 HO5.out HH5.out)⟩
                  | with_reducible exact ⟨_, rfl, rfl, Lib.hid (lay3 HO5.out HH5.out)⟩
                  | ((have g_ := HO6); exact ⟨_, rfl, rfl, Lib.hid (lay2 HO6.out HH6.out)⟩)
                  | ((have g_ := HO7); exact ⟨_, rfl, rfl, Lib.hid (lay4 HO7.out HH7.out)⟩))
            case rest =>
              obtain ⟨gc, rfl, rfl, HQ⟩ := hcut
              obtain ⟨w10, rfl⟩ : ∃ x, x = wc := ⟨_, rfl⟩
              clear ODd KDd HBa ODa KDa KNa ba_ haz_ d_0 d_1 d_2 d_3 e_0 e_1 e_2 e_3 n_0 n_1 n_2 n_3 m_0 m_1 m_2 m_3 bd_0 bd_1 bd_2 bd_3 bn_0 bn_1 bn_2 bn_3 bm_0 bm_1 bm_2 bm_3 HBb ODb KDb KNb bb_ hbz_ SAd SAa SAb
              obtain ⟨u0, u1, u2, u3, K_, O_, hl_, h0_⟩ := HQ.out
              have h_ := bd_.trans (h0_.mono (by omega))
              have hs10 := h_.size
              replace HD := Lib.hid (HD.out.below h_ (by omega)); replace OD := Lib.hid (OD.out.below h_ (by omega)); replace SA := Lib.hid (SA.out.below h_ (by omega)); replace KD := Lib.hid (KD.out.below h_ (by omega)); replace OX := Lib.hid (OX.out.below h_ (by omega)); replace KX := Lib.hid (KX.out.below h_ (by omega)); replace SD := Lib.hid (SD.out.below h_ (by omega)); replace KA := Lib.hid (KA.out.below h_ (by omega)); replace OA := Lib.hid (OA.out.below h_ (by omega))
              replace HB := Lib.hid (HB.out.trans (h_.mono (by omega)))
              have hl_gc : gc < w10.heap.size := K_.lt
              obtain ⟨oc0, oc1, oc2, oc3, oc4, oc5, oc6, oc7, rfl, rfl, rfl, rfl, _⟩ := O_.shapes
              have KC := Lib.hid K_
              have OC := Lib.hid O_
              clear HQ K_ O_ hl_ h0_ h_ bd_ HBd hdz_
              go_wp2_with fail
              refine (DrawRowsOf_any _ ds _ (SlB.wide HD.out (by omega))).mono ?_
              rintro e w11 ⟨⟨mn, mp, mq, macts⟩, mva, mve, mes, rfl, hM_, hV_, hle_, h_⟩
              have hs11 := h_.size
              replace OX := Lib.hid (OX.out.below h_ (by omega)); replace KX := Lib.hid (KX.out.below h_ (by omega)); replace KC := Lib.hid (KC.out.below h_ (by omega)); replace OC := Lib.hid (OC.out.below h_ (by omega))
              replace HB := Lib.hid (HB.out.trans (h_.mono (by omega)))
              have HM := Lib.hid hM_
              obtain ⟨ma, mc, rfl, _, _⟩ := hM_.1.shape
              obtain ⟨ea, ec, rfl, _, _⟩ := Sl.shape hV_
              clear h_ hM_ hV_
              obtain ⟨w12, hw_⟩ : ∃ w_, w_ = w11.alloc (.cells #[(.int .i64 mn), (.int .i64 mp), (.int .i64 mq), (.slice ma macts.length mc)] 31) := ⟨_, rfl⟩
              obtain ⟨h_, K_, hs12⟩ := box_facts2 hw_
              replace OX := Lib.hid (OX.out.below h_ (by omega)); replace KX := Lib.hid (KX.out.below h_ (by omega)); replace KC := Lib.hid (KC.out.below h_ (by omega)); replace OC := Lib.hid (OC.out.below h_ (by omega))
              replace HB := Lib.hid (HB.out.trans (h_.mono (by omega)))
              replace HM := Lib.hid (HM.out.below h_)
              obtain ⟨gm, hg_⟩ : ∃ g_, g_ = w11.heap.size := ⟨_, rfl⟩
              rw [← hg_] at K_
              have KM := Lib.hid K_
              have hl_gm : gm < w12.heap.size := by omega
              have HW_ := Lib.hid hw_
              clear h_ K_ hw_
              go_upto_region 14 with fail
              simp only [← HW_.out, ← hg_]
              clear HW_ hg_
              go_upto_region 14 with fail
              have bd_ : Below w12.heap.size w12 w12.drew := Below.drew (Below.refl _ _)
              have hdz_ : w12.drew.heap.size = w12.heap.size := rfl
              have KXd := Lib.hid (KX.out.below bd_ (by omega))
              have KCd := Lib.hid (KC.out.below bd_ (by omega))
              have KMd := Lib.hid (KM.out.below bd_ (by omega))
              have OXd := Lib.hid (OX.out.below bd_ (by omega))
              have OCd := Lib.hid (OC.out.below bd_ (by omega))
              have HMd := Lib.hid (HM.out.below (bd_.mono (by omega)))
              have HBd := Lib.hid (HB.out.trans (bd_.mono (by omega)))
              have vdx0 := KXd.out.cell 0
              have vdx1 := KXd.out.cell 1
              have vdx2 := KXd.out.cell 2
              have vdx3 := KXd.out.cell 3
              have vdc0 := KCd.out.cell 0
              have vdc1 := KCd.out.cell 1
              have vdc2 := KCd.out.cell 2
              have vdc3 := KCd.out.cell 3
              have vdm0 := KMd.out.cell 0
              have vdm1 := KMd.out.cell 1
              have vdm2 := KMd.out.cell 2
              have vdm3 := KMd.out.cell 3
              have hfl : R.first.length ≤ 1048576 ∧ R.now.length ≤ 1048576 := by have h := hRs; unfold Dsk.size at h; omega
              have hrl := rowsV_len ⟨mn, mp, mq, macts⟩ R.now
              have hrx : rowsV ⟨mn, mp, mq, macts⟩ R.first = rowsV ⟨mn, mp, mq, macts⟩ R.now := desk_rows _ HVR.out
              obtain ⟨rs, hrs⟩ : ∃ rs, rowsV ⟨mn, mp, mq, macts⟩ R.now = rs := ⟨_, rfl⟩
              rw [hrs] at hrl hrx
              have HRX := Lib.hid hrx
              have HRS := Lib.hid hrs
              clear hrx hrs
              go_region_held3 (fun w' => w'.cell? ⟨gx, 0, none⟩ = some (.slice x0 R.first.length x1) ∧ w'.cell? ⟨gx, 1, none⟩ = some (.slice x2 R.goal.length x3) ∧ w'.cell? ⟨gx, 2, none⟩ = some (.slice x4 R.made.length x5) ∧ w'.cell? ⟨gx, 3, none⟩ = some (.slice x6 R.now.length x7) ∧ w'.cell? ⟨gc, 0, none⟩ = some (.slice oc0 R.first.length oc1) ∧ w'.cell? ⟨gc, 1, none⟩ = some (.slice oc2 R.goal.length oc3) ∧ w'.cell? ⟨gc, 2, none⟩ = some (.slice oc4 R.made.length oc5) ∧ w'.cell? ⟨gc, 3, none⟩ = some (.slice oc6 R.now.length oc7) ∧ w'.cell? ⟨gm, 0, none⟩ = some (.int .i64 mn) ∧ w'.cell? ⟨gm, 1, none⟩ = some (.int .i64 mp) ∧ w'.cell? ⟨gm, 2, none⟩ = some (.int .i64 mq) ∧ w'.cell? ⟨gm, 3, none⟩ = some (.slice ma macts.length mc)) (first | with_reducible assumption | go_keep) (first
                | ((have g_ := OT); go_at_call 11; refine (sameInts_same _ _ _ _ _ _ rs _ OS.out OT.out (by omega)).mono ?_; rintro e95 w95 ⟨rfl, h_⟩; (have hs95 := h_.size); (have k95x_ := KX94.out.below h_ (by omega)); (have k95c_ := KC94.out.below h_ (by omega)); (have k95m_ := KM94.out.below h_ (by omega)); (have v95x0 := k95x_.cell 0); (have v95x1 := k95x_.cell 1); (have v95x2 := k95x_.cell 2); (have v95x3 := k95x_.cell 3); (have v95c0 := k95c_.cell 0); (have v95c1 := k95c_.cell 1); (have v95c2 := k95c_.cell 2); (have v95c3 := k95c_.cell 3); (have v95m0 := k95m_.cell 0); (have v95m1 := k95m_.cell 1); (have v95m2 := k95m_.cell 2); (have v95m3 := k95m_.cell 3); (have KX95 := Lib.hid k95x_); (have KC95 := Lib.hid k95c_); (have KM95 := Lib.hid k95m_);  (have HM95 := Lib.hid (HM94.out.below (h_.mono (by omega)))); (have HB95 := Lib.hid (HB94.out.trans (h_.mono (by omega)))); clear h_ g_)
                | ((have g_ := OS0); go_at_call 17; refine (impl_RowsOf _ _ _ _ ⟨mn, mp, mq, macts⟩ _ _ R.now _ HM93.out.1 (by omega) (by have := HM93.out.2.1; simp only at this ⊢; omega) (fun x h => by have := HM93.out.2.2 x h; omega) OX93.out.now (by omega) (by omega)).mono ?_; rintro e94 w94 ⟨v94, rfl, o_, h_⟩; rw [HRS.out] at o_; (have hs94 := h_.size); obtain ⟨ta, tc, rfl, _⟩ := Own.open o_; (have k94x_ := KX93.out.below h_ (by omega)); (have k94c_ := KC93.out.below h_ (by omega)); (have k94m_ := KM93.out.below h_ (by omega)); (have v94x0 := k94x_.cell 0); (have v94x1 := k94x_.cell 1); (have v94x2 := k94x_.cell 2); (have v94x3 := k94x_.cell 3); (have v94c0 := k94c_.cell 0); (have v94c1 := k94c_.cell 1); (have v94c2 := k94c_.cell 2); (have v94c3 := k94c_.cell 3); (have v94m0 := k94m_.cell 0); (have v94m1 := k94m_.cell 1); (have v94m2 := k94m_.cell 2); (have v94m3 := k94m_.cell 3); (have KX94 := Lib.hid k94x_); (have KC94 := Lib.hid k94c_); (have KM94 := Lib.hid k94m_);  (have HM94 := Lib.hid (HM93.out.below (h_.mono (by omega)))); (have HB94 := Lib.hid (HB93.out.trans (h_.mono (by omega)))); (have OS := Lib.hid (OS0.out.below h_ (by omega))); (have OT := Lib.hid o_.sl); clear h_ o_ g_)
                | ((have g_ := HB92); go_at_call 17; refine (impl_RowsOf _ _ _ _ ⟨mn, mp, mq, macts⟩ _ _ R.first _ HM92.out.1 (by omega) (by have := HM92.out.2.1; simp only at this ⊢; omega) (fun x h => by have := HM92.out.2.2 x h; omega) OX92.out.first (by omega) (by omega)).mono ?_; rintro e93 w93 ⟨v93, rfl, o_, h_⟩; rw [HRX.out] at o_; (have hs93 := h_.size); obtain ⟨ra, rc, rfl, _⟩ := Own.open o_; (have k93x_ := KX92.out.below h_ (by omega)); (have k93c_ := KC92.out.below h_ (by omega)); (have k93m_ := KM92.out.below h_ (by omega)); (have v93x0 := k93x_.cell 0); (have v93x1 := k93x_.cell 1); (have v93x2 := k93x_.cell 2); (have v93x3 := k93x_.cell 3); (have v93c0 := k93c_.cell 0); (have v93c1 := k93c_.cell 1); (have v93c2 := k93c_.cell 2); (have v93c3 := k93c_.cell 3); (have v93m0 := k93m_.cell 0); (have v93m1 := k93m_.cell 1); (have v93m2 := k93m_.cell 2); (have v93m3 := k93m_.cell 3); (have KX93 := Lib.hid k93x_); (have KC93 := Lib.hid k93c_); (have KM93 := Lib.hid k93m_); (have OX93 := Lib.hid (OX92.out.below h_ (by omega))); (have HM93 := Lib.hid (HM92.out.below (h_.mono (by omega)))); (have HB93 := Lib.hid (HB92.out.trans (h_.mono (by omega)))); (have OS0 := Lib.hid o_.sl); clear h_ o_ g_)
                | ((have g_ := HB91); go_at_call 21; refine (sameDesk_eq _ _ _ _ _ _ _ _ _ _ _ _ R _ OC91.out OX91.out (by omega) (by omega) hRs).mono ?_; rintro e92 w92 ⟨rfl, h_⟩; (have hs92 := h_.size); (have k92x_ := KX91.out.below h_ (by omega)); (have k92c_ := KC91.out.below h_ (by omega)); (have k92m_ := KM91.out.below h_ (by omega)); (have v92x0 := k92x_.cell 0); (have v92x1 := k92x_.cell 1); (have v92x2 := k92x_.cell 2); (have v92x3 := k92x_.cell 3); (have v92c0 := k92c_.cell 0); (have v92c1 := k92c_.cell 1); (have v92c2 := k92c_.cell 2); (have v92c3 := k92c_.cell 3); (have v92m0 := k92m_.cell 0); (have v92m1 := k92m_.cell 1); (have v92m2 := k92m_.cell 2); (have v92m3 := k92m_.cell 3); (have KX92 := Lib.hid k92x_); (have KC92 := Lib.hid k92c_); (have KM92 := Lib.hid k92m_); (have OX92 := Lib.hid (OX91.out.below h_ (by omega))); (have HM92 := Lib.hid (HM91.out.below (h_.mono (by omega)))); (have HB92 := Lib.hid (HB91.out.trans (h_.mono (by omega)))); clear h_ g_)
                | (go_at_call 24; refine (impl_DeskValid _ _ _ _ _ _ R _ (HE.out.below HBd.out) OXd.out (by omega) hRs).mono ?_; rintro e91 w91 ⟨rfl, h_⟩; rw [HVR.out]; (have hs91 := h_.size); (have k91x_ := KXd.out.below h_ (by omega)); (have k91c_ := KCd.out.below h_ (by omega)); (have k91m_ := KMd.out.below h_ (by omega)); (have v91x0 := k91x_.cell 0); (have v91x1 := k91x_.cell 1); (have v91x2 := k91x_.cell 2); (have v91x3 := k91x_.cell 3); (have v91c0 := k91c_.cell 0); (have v91c1 := k91c_.cell 1); (have v91c2 := k91c_.cell 2); (have v91c3 := k91c_.cell 3); (have v91m0 := k91m_.cell 0); (have v91m1 := k91m_.cell 1); (have v91m2 := k91m_.cell 2); (have v91m3 := k91m_.cell 3); (have KX91 := Lib.hid k91x_); (have KC91 := Lib.hid k91c_); (have KM91 := Lib.hid k91m_); (have OX91 := Lib.hid (OXd.out.below h_ (by omega))); (have OC91 := Lib.hid (OCd.out.below h_ (by omega))); (have HM91 := Lib.hid (HMd.out.below (h_.mono (by omega)))); (have HB91 := Lib.hid (HBd.out.trans (h_.mono (by omega)))); clear h_))
              go_wp2
              go_ret
              exact ⟨rfl, HB95.out⟩
      · have hz := deskRun_bad hv
        rw [HR.out] at hz
        obtain ⟨rfl, rfl⟩ : R = Dsk.none ∧ n = 0 := ⟨congrArg Prod.fst hz, congrArg Prod.snd hz⟩
        clear hz
        cases hd : deskV D
        · skip
          clear hv hd
          have c_KX_0 := KX.out.cell 0
          have c_KX_1 := KX.out.cell 1
          have c_KX_2 := KX.out.cell 2
          have c_KX_3 := KX.out.cell 3
          go_wp2_with fail
          clear c_KX_0 c_KX_1 c_KX_2 c_KX_3
          refine (noDesk_zero _ _ _ _ _ _ _ OX.out (by omega)).mono ?_
          rintro e w9 ⟨rfl, h_⟩
          have hs9 := h_.size
          replace HD := Lib.hid (HD.out.below h_ (by omega)); replace OD := Lib.hid (OD.out.below h_ (by omega)); replace SA := Lib.hid (SA.out.below h_ (by omega)); replace KD := Lib.hid (KD.out.below h_ (by omega)); replace OX := Lib.hid (OX.out.below h_ (by omega)); replace KX := Lib.hid (KX.out.below h_ (by omega))
          replace HB := Lib.hid (HB.out.trans (h_.mono (by omega)))
          clear h_
          go_wp2_with fail
          refine (alive_any _).mono ?_
          rintro e w_ ⟨rfl, rfl⟩
          go_wp2
          go_ret
          exact ⟨rfl, HB.out⟩
        · skip
          have hv3 : (40 : Int) < (L.length : Int) := by simp [hd] at hv; omega
          clear hv hd
          have c_KX_0 := KX.out.cell 0
          have c_KX_1 := KX.out.cell 1
          have c_KX_2 := KX.out.cell 2
          have c_KX_3 := KX.out.cell 3
          go_wp2_with fail
          clear c_KX_0 c_KX_1 c_KX_2 c_KX_3
          refine (noDesk_zero _ _ _ _ _ _ _ OX.out (by omega)).mono ?_
          rintro e w9 ⟨rfl, h_⟩
          have hs9 := h_.size
          replace HD := Lib.hid (HD.out.below h_ (by omega)); replace OD := Lib.hid (OD.out.below h_ (by omega)); replace SA := Lib.hid (SA.out.below h_ (by omega)); replace KD := Lib.hid (KD.out.below h_ (by omega)); replace OX := Lib.hid (OX.out.below h_ (by omega)); replace KX := Lib.hid (KX.out.below h_ (by omega))
          replace HB := Lib.hid (HB.out.trans (h_.mono (by omega)))
          clear h_
          go_wp2_with fail
          refine (alive_any _).mono ?_
          rintro e w_ ⟨rfl, rfl⟩
          go_wp2
          go_ret
          exact ⟨rfl, HB.out⟩
    · go_enter Tryz.func4, Tryz.ntmps4
      go_wp2
      go_ret
      exact ⟨rfl, Below.refl _ _⟩
  · go_enter Tryz.func4, Tryz.ntmps4
    go_wp2
    go_ret
    exact ⟨rfl, Below.refl _ _⟩
end Go.Proofs.YtadihfjmgckdaaaGreatDoor
