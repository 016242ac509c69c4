/-
  Texts of walks and plain lemmas for this seat; no condition.
-/
import Derived.Test.YtoondakdjhhehaaDoorGZA
import Derived.Test.YtoondakdjhhehaaDoorCShI
import Derived.Test.YtoondakdjhhehaaDoorSCVal
import Derived.Test.YtoondakdjhhehaaDoorCShS
import Derived.Laws.OwnMore
namespace Go.Proofs.YtoondakdjhhehaaDoor
open Go.RowKit
section
set_option linter.unusedVariables false

/-- Where jumps end: the reference's answer. -/
def folV (c : List In3) (a : Nat) : Int := match folC c a with | some b => ((b : Nat) : Int) | none => -1
set_option maxRecDepth 100000 in
set_option maxHeartbeats 3200000 in
theorem spec_l8Follow (lo hi : Nat) (v : Value) (c : List In3) (t0 : Nat) (w : World) (hx : SlC lo hi w v c) (hhi : hi ≤ w.heap.size) (hc : Code0 c) (ht : t0 < c.length) :
    Calls Tryd.prog 77 #[v, .int .i64 t0] w fun e w' => e = .returned (.int .i64 (folV c t0)) ∧ w = w' := by
  have hcl := hc.most
  have hcp := hc.pos
  obtain ⟨ca, cc, rfl, hcc, hcm⟩ := hx.shape
  clear hcc hcm
  have HX := Lib.hid hx
  have HC := Lib.hid hc
  have HJ0 := Lib.hid (JGo.start c t0)
  have HY : Hid (∀ b : Nat, folC c t0 = some b → folV c t0 = b) := Lib.hid fun b h => by simp [folV, h]
  have HNo : Hid (folC c t0 = none → folV c t0 = -1) := Lib.hid fun h => by simp [folV, h]
  obtain ⟨R, hR⟩ : ∃ R, R = folV c t0 := ⟨_, rfl⟩
  rw [← hR] at HY HNo ⊢
  clear hx hc hR
  go_enter Tryd.func77, Tryd.ntmps77
  go_wp2
  go_loop [1, 5] (fun tv nv => ∃ t n : Nat, tv = .int .i64 t ∧ nv = .int .i64 n ∧ t < c.length ∧ n ≤ c.length + 1 ∧ Hid (JGo c t0 n t)) (fun _ nv => c.length + 2 - (intOf nv).toNat)
  case atStart => exact ⟨t0, 0, rfl, rfl, ht, by omega, HJ0⟩
  case round =>
    obtain ⟨t, n, rfl, rfl, htl, hnl, HJ⟩ := hrel
    clear HJ0
    obtain ⟨b2, off2, rfl, _, _, _, r0, r1, r2⟩ := HX.out.get t htl
    have j1 : (t : Int) < c.length := by omega
    have hte : insAt c t = c[t] := insAt_get htl
    have hti := HC.out.ins t htl
    have htt := fun h => HC.out.to_lt htl h
    have HN := Lib.hid (fun h => HJ.out.next (stepJ_yes (c := c) (a := t) h))
    have HD := Lib.hid (fun h => HJ.out.done HC.out ht (stepJ_no (c := c) (a := t) h))
    rw [hte] at hti htt HN HD
    obtain ⟨y, hy⟩ : ∃ y, y = c[t] := ⟨_, rfl⟩
    rw [← hy] at r0 r1 r2 hti htt HN HD
    clear hy hte
    obtain ⟨yk, ya, yt⟩ := y
    simp only at r0 r1 r2 htt HN HD
    by_cases hn : c.length < n
    · have HR := Lib.hid (HNo.out (HJ.out.over HC.out ht hn))
      have hnd : decide ((n : Int) ≤ (c.length : Int)) = false := decide_eq_false (by omega)
      clear HN HJ HD htt hti
      go_wp2
      go_ret
      exact ⟨ret_int HR.out.symm, rfl⟩
    · have hnd : decide ((n : Int) ≤ (c.length : Int)) = true := decide_eq_true (by omega)
      by_cases hy2 : yk = 2
      · subst hy2
        have htt' := htt (Or.inr rfl)
        have ht1 := (insB_to hti (Or.inr rfl)).1
        simp only at ht1
        obtain ⟨t', rfl⟩ : ∃ t' : Nat, yt = t' := ⟨yt.toNat, by omega⟩
        rw [Int.toNat_natCast] at htt'
        replace HN := Lib.hid (HN.out rfl)
        simp only [Int.toNat_natCast] at HN
        clear htt hti HD HJ
        go_wp2
        go_round
        case rel => exact ⟨t', n + 1, rfl, by go_num, htt', by omega, HN⟩
        case measure => simp [intOf]; omega
      · have hyd : (yk == 2) = false := by simpa using hy2
        have hyd2 : (yk != 2) = true := by simpa using hy2
        have HR := Lib.hid (HY.out t (HD.out hy2))
        clear HN HJ HD htt hti hy2
        go_wp2
        go_ret
        exact ⟨ret_int HR.out.symm, rfl⟩
end

section
set_option linter.unusedVariables false

def thrK (c : List In3) (k : Nat) : List In3 := (c.take k).map (thrI c)
theorem thrK_succ {c : List In3} {k : Nat} (h : k < c.length) : thrK c (k + 1) = thrK c k ++ [thrI c c[k]] := by
  unfold thrK
  rw [List.take_succ_eq_append_getElem h, List.map_append]
  rfl
theorem thrK_all (c : List In3) : thrK c c.length = thrC c := by simp [thrK, thrC]
theorem folV_some {c : List In3} {t b : Nat} (h : folC c t = some b) : folV c t = b := by simp [folV, h]
theorem folV_none {c : List In3} {t : Nat} (h : folC c t = none) : folV c t = -1 := by simp [folV, h]

set_option maxRecDepth 100000 in
set_option maxHeartbeats 3200000 in
theorem spec_CodeThread (lo hi : Nat) (v : Value) (c : List In3) (w : World) (hx : SlC lo hi w v c) (hhi : hi ≤ w.heap.size) (hc : codeV c = true) :
    Calls Tryd.prog 50 #[v] w (RetV fun u w' => ∃ zs, zs = thrC c ∧ OwnC w.heap.size w'.heap.size 33 w' u zs ∧ Below w.heap.size w w') := by
  have HC := Lib.hid (codeV_iff.1 hc)
  have HCV := Lib.hid hc
  have hcl := HC.out.most
  have hcp := HC.out.pos
  obtain ⟨ca, cc, rfl, _, _⟩ := hx.shape
  have HX := Lib.hid hx
  have HOL : Hid (OwnC w.heap.size (w.alloc (.cells #[] 33)).heap.size 33 (w.alloc (.cells #[] 33)) (.slice (some ⟨w.heap.size, 0, none⟩) 0 0) []) := Lib.hid (by
    have h0 := Own.lit 3 33 w (inss []) 0 (by omega) rfl
    have e : (w.alloc (.cells #[] 33)).heap.size = w.heap.size + 1 := by simp
    rw [e]
    exact h0)
  have HBL := Lib.hid ((Below.refl w.heap.size w).alloc (Nat.le_refl _) (.cells #[] 33))
  clear hx hc
  go_enter Tryd.func50, Tryd.ntmps50
  go_wp2
  go_loopw [3, 4] (fun v iv wr => ∃ (k : Nat) (os : List In3) (a : Option Addr) (cap : Nat), v = .slice a os.length cap ∧ iv = .int .i64 k ∧ k ≤ c.length ∧ os.length ≤ k ∧ Hid (os = thrK c k) ∧ Hid (OwnC w.heap.size wr.heap.size 33 wr (.slice a os.length cap) os) ∧ Hid (Below w.heap.size w wr)) (fun _ iv _ => c.length - (intOf iv).toNat)
  case atStart => exact ⟨0, [], _, 0, rfl, rfl, by omega, by simp, Lib.hid rfl, HOL, HBL⟩
  case round =>
    obtain ⟨k, os, a, cap, rfl, rfl, hk, hol, HOS, HOC, HBe⟩ := hrel
    clear HOL HBL
    obtain ⟨wo, rfl⟩ : ∃ x_, x_ = wr := ⟨_, rfl⟩
    have hsr := HBe.out.size
    by_cases hlt : k < c.length
    · have i1 : (k : Int) < c.length := by omega
      have i1d : decide ((k : Int) < (c.length : Int)) = true := decide_eq_true i1
      go_wp2_with fail
      refine (spec_CodeValid lo hi _ c wo (HX.out.below HBe.out hhi) (by omega) (by omega)).mono ?_
      rintro e w1 ⟨rfl, hb⟩
      rw [HCV.out]
      have hs1 := hb.size
      replace HOC := Lib.hid (HOC.out.below hb (Nat.le_refl _))
      replace HBe := Lib.hid (HBe.out.trans (hb.mono hsr))
      clear hb
      obtain ⟨b, off, rfl, _, hbh, hbs2, q0, q1, q2⟩ := (HX.out.below HBe.out hhi).get k hlt
      have hins := HC.out.ins k hlt
      have hto := fun h => HC.out.to_lt hlt h
      have hxe : insAt c k = c[k] := insAt_get hlt
      have HYe : Hid (thrK c (k + 1) = thrK c k ++ [thrI c c[k]]) := Lib.hid (thrK_succ hlt)
      rw [hxe] at hins hto
      obtain ⟨x, hx⟩ : ∃ x, x = c[k] := ⟨_, rfl⟩
      rw [← hx] at q0 q1 q2 hins hto HYe
      clear hx hxe
      obtain ⟨kd, ar, tt⟩ := x
      simp only at q0 q1 q2 hto
      obtain ⟨wx, hwx⟩ : ∃ wx, wx = w1.alloc (.cells #[.int .i64 kd, .int .i64 ar, .int .i64 tt] 33) := ⟨_, rfl⟩
      obtain ⟨hbx, KX_, hsx⟩ := box_facts3 hwx
      have KX := Lib.hid KX_
      have HWX := Lib.hid hwx
      have HBX := Lib.hid (HBe.out.trans (hbx.mono (by omega)))
      have HQX := Lib.hid (HOC.out.below hbx hs1)
      have x0 := KX_.cell 0
      have x1 := KX_.cell 1
      have x2 := KX_.cell 2
      have f2 := KX_.free 2
      have hgx := KX_.lt
      have hszX := HBX.out.size
      obtain ⟨gx, hgxe⟩ : ∃ gx, gx = w1.heap.size := ⟨_, rfl⟩
      rw [← hgxe] at KX x0 x1 x2 f2 hgx
      have hgx2 : w.heap.size ≤ gx := by omega
      have hgx3 : wo.heap.size ≤ gx := by omega
      have HGX := Lib.hid hgxe
      clear KX_ hbx HOC hwx hgxe
      go_upto_region 6 with (rw [← HWX.out])
      try rw [← HWX.out]
      rw [← HGX.out]
      have HXX := Lib.hid (HX.out.below HBX.out hhi)
      by_cases hgo : kd = 1 ∨ kd = 2
      · have ht := hto hgo
        have ht0 := (insB_to hins hgo).1
        simp only at ht0
        obtain ⟨t0, rfl⟩ : ∃ t0 : Nat, tt = t0 := ⟨tt.toNat, by omega⟩
        rw [Int.toNat_natCast] at ht
        have HFo := Lib.hid (spec_l8Follow lo hi _ c t0 wx HXX.out (by omega) HC.out ht)
        have hgg : ((kd == 1) = true ∨ ((kd == 1) = false ∧ (kd == 2) = true)) := by
          rcases hgo with h | h
          · subst h
            exact .inl rfl
          · subst h
            exact .inr ⟨rfl, rfl⟩
        cases hf : folC c t0 with
        | some fb =>
          rw [folV_some hf] at HFo
          have HYes : Hid (thrK c (k + 1) = thrK c k ++ [⟨kd, ar, (fb : Int)⟩]) := Lib.hid (by rw [HYe.out, thrI_some (x := ⟨kd, ar, (t0 : Int)⟩) hgo hf])
          have KYp := KX.out.put 2 (.int .i64 (fb : Int))
          have OYp := Outside.put gx 2 wx (.int .i64 (fb : Int))
          obtain ⟨wy, hwy⟩ : ∃ wy, wy = wx.setCell ⟨gx, 2, none⟩ (.int .i64 (fb : Int)) := ⟨_, rfl⟩
          rw [← hwy] at KYp OYp
          have KY : Hid (Blk gx (.cells #[.int .i64 kd, .int .i64 ar, .int .i64 (fb : Int)] 33) wy) := Lib.hid (by simpa using KYp)
          have hsY := OYp.size
          have HSY : Hid (OwnC w.heap.size wo.heap.size 33 wy (.slice a os.length cap) os) := Lib.hid (HQX.out.outside OYp (.inl hgx3))
          have HBY := Lib.hid (Below.outside HBX.out OYp hgx2 hszX)
          have hszY : w.heap.size ≤ wy.heap.size := by omega
          have HWY := Lib.hid hwy
          clear KYp OYp hwy hf hto hins hgo HYe
          rcases hgg with g1 | ⟨g1, g2⟩
          all_goals
            go_wp2_with fail
            refine HFo.out.mono ?_
            rintro e _ ⟨rfl, rfl⟩
            go_wp2_with fail
            refine HFo.out.mono ?_
            rintro e _ ⟨rfl, rfl⟩
            go_upto_region 8 with (rw [← HWY.out])
            try rw [← HWY.out]
            clear x0 x1 x2 f2
            have k0 := KY.out.cell 0
            have k1 := KY.out.cell 1
            have k2 := KY.out.cell 2
            have hownA := HSY.out
            go_wp2_with (at_builtin; go_loud (refine wpList_app_lit _ rfl _ _ 26 rfl 33 (.agg #[.int .i64 0, .int .i64 0, .int .i64 0]) 3 24 Tryd.underlying26 info_ins rfl (by decide) (by decide) rfl hownA 1 (inss [⟨kd, ar, (fb : Int)⟩]) rfl rfl (inss_one _) rfl (by omega) hszY ?_))
            intro v' w8 h5 h6 _
            obtain ⟨a8, cap8, rfl, _⟩ := Own.open h5
            have HR8 : Hid (OwnC w.heap.size w8.heap.size 33 w8 (.slice a8 (os.length + 1) cap8) (os ++ [⟨kd, ar, (fb : Int)⟩])) := Lib.hid (OwnC.len (n := os.length + 1) (by rw [inss_append]; exact h5) (by simp))
            have HB8 := Lib.hid (Below.outside HBY.out h6 (Nat.le_refl _) hszY)
            have HL8 : Hid (os.length + 1 = (os ++ ([⟨kd, ar, (fb : Int)⟩] : List In3)).length) := Lib.hid (by simp)
            clear h5 h6 hownA
            obtain ⟨os8, hos8⟩ : ∃ os8 : List In3, os8 = os ++ ([⟨kd, ar, (fb : Int)⟩] : List In3) := ⟨_, rfl⟩
            rw [← hos8] at HR8 HL8
            have HO8 : Hid (os8 = thrK c (k + 1)) := Lib.hid (by rw [hos8, HYes.out, HOS.out])
            clear hos8 k0 k1 k2
            have hl8 : os8.length ≤ k + 1 := by rw [← HL8.out]; omega
            rw [HL8.out]
            rw [HL8.out] at HR8
            go_wp2
            go_roundw
            case rel => exact ⟨k + 1, os8, _, _, rfl, by go_num, by omega, hl8, HO8, HR8, HB8⟩
            case measure => simp [intOf]; omega
        | none =>
          rw [folV_none hf] at HFo
          have HYes : Hid (thrK c (k + 1) = thrK c k ++ [⟨kd, ar, (t0 : Int)⟩]) := Lib.hid (by rw [HYe.out, thrI_none (x := ⟨kd, ar, (t0 : Int)⟩) hf])
          have KY := KX
          have HSY : Hid (OwnC w.heap.size wo.heap.size 33 wx (.slice a os.length cap) os) := HQX
          have HBY := HBX
          have hszY : w.heap.size ≤ wx.heap.size := by omega
          clear hf hto hins hgo HYe
          rcases hgg with g1 | ⟨g1, g2⟩
          all_goals
            go_wp2_with fail
            refine HFo.out.mono ?_
            rintro e _ ⟨rfl, rfl⟩
            clear x0 x1 x2 f2
            have k0 := KY.out.cell 0
            have k1 := KY.out.cell 1
            have k2 := KY.out.cell 2
            have hownA := HSY.out
            go_wp2_with (at_builtin; go_loud (refine wpList_app_lit _ rfl _ _ 26 rfl 33 (.agg #[.int .i64 0, .int .i64 0, .int .i64 0]) 3 24 Tryd.underlying26 info_ins rfl (by decide) (by decide) rfl hownA 1 (inss [⟨kd, ar, (t0 : Int)⟩]) rfl rfl (inss_one _) rfl (by omega) hszY ?_))
            intro v' w8 h5 h6 _
            obtain ⟨a8, cap8, rfl, _⟩ := Own.open h5
            have HR8 : Hid (OwnC w.heap.size w8.heap.size 33 w8 (.slice a8 (os.length + 1) cap8) (os ++ [⟨kd, ar, (t0 : Int)⟩])) := Lib.hid (OwnC.len (n := os.length + 1) (by rw [inss_append]; exact h5) (by simp))
            have HB8 := Lib.hid (Below.outside HBY.out h6 (Nat.le_refl _) hszY)
            have HL8 : Hid (os.length + 1 = (os ++ ([⟨kd, ar, (t0 : Int)⟩] : List In3)).length) := Lib.hid (by simp)
            clear h5 h6 hownA
            obtain ⟨os8, hos8⟩ : ∃ os8 : List In3, os8 = os ++ ([⟨kd, ar, (t0 : Int)⟩] : List In3) := ⟨_, rfl⟩
            rw [← hos8] at HR8 HL8
            have HO8 : Hid (os8 = thrK c (k + 1)) := Lib.hid (by rw [hos8, HYes.out, HOS.out])
            clear hos8 k0 k1 k2
            have hl8 : os8.length ≤ k + 1 := by rw [← HL8.out]; omega
            rw [HL8.out]
            rw [HL8.out] at HR8
            go_wp2
            go_roundw
            case rel => exact ⟨k + 1, os8, _, _, rfl, by go_num, by omega, hl8, HO8, HR8, HB8⟩
            case measure => simp [intOf]; omega
      · have h1 : (kd == 1) = false := by simp; omega
        have h2 : (kd == 2) = false := by simp; omega
        have HYes : Hid (thrK c (k + 1) = thrK c k ++ [⟨kd, ar, tt⟩]) := Lib.hid (by rw [HYe.out, thrI_other (x := ⟨kd, ar, tt⟩) hgo])
        have KY := KX
        have HSY : Hid (OwnC w.heap.size wo.heap.size 33 wx (.slice a os.length cap) os) := HQX
        have HBY := HBX
        have hszY : w.heap.size ≤ wx.heap.size := by omega
        clear HYe hto hins hgo x0 x1 x2 f2
        have k0 := KY.out.cell 0
        have k1 := KY.out.cell 1
        have k2 := KY.out.cell 2
        have hownA := HSY.out
        go_wp2_with (at_builtin; go_loud (refine wpList_app_lit _ rfl _ _ 26 rfl 33 (.agg #[.int .i64 0, .int .i64 0, .int .i64 0]) 3 24 Tryd.underlying26 info_ins rfl (by decide) (by decide) rfl hownA 1 (inss [⟨kd, ar, tt⟩]) rfl rfl (inss_one _) rfl (by omega) hszY ?_))
        intro v' w8 h5 h6 _
        obtain ⟨a8, cap8, rfl, _⟩ := Own.open h5
        have HR8 : Hid (OwnC w.heap.size w8.heap.size 33 w8 (.slice a8 (os.length + 1) cap8) (os ++ [⟨kd, ar, tt⟩])) := Lib.hid (OwnC.len (n := os.length + 1) (by rw [inss_append]; exact h5) (by simp))
        have HB8 := Lib.hid (Below.outside HBY.out h6 (Nat.le_refl _) hszY)
        have HL8 : Hid (os.length + 1 = (os ++ ([⟨kd, ar, tt⟩] : List In3)).length) := Lib.hid (by simp)
        clear h5 h6 hownA
        obtain ⟨os8, hos8⟩ : ∃ os8 : List In3, os8 = os ++ ([⟨kd, ar, tt⟩] : List In3) := ⟨_, rfl⟩
        rw [← hos8] at HR8 HL8
        have HO8 : Hid (os8 = thrK c (k + 1)) := Lib.hid (by rw [hos8, HYes.out, HOS.out])
        clear hos8 k0 k1 k2
        have hl8 : os8.length ≤ k + 1 := by rw [← HL8.out]; omega
        rw [HL8.out]
        rw [HL8.out] at HR8
        go_wp2
        go_roundw
        case rel => exact ⟨k + 1, os8, _, _, rfl, by go_num, by omega, hl8, HO8, HR8, HB8⟩
        case measure => simp [intOf]; omega
    · obtain rfl : k = c.length := by omega
      have i1d : decide ((c.length : Int) < (c.length : Int)) = false := by simp
      have HEq : Hid (os = thrC c) := Lib.hid (by rw [HOS.out, thrK_all])
      clear HOS
      go_wp2
      go_ret
      exact RetV.mk _ rfl ⟨os, HEq.out, HOC.out, HBe.out⟩
end
end Go.Proofs.YtoondakdjhhehaaDoor
