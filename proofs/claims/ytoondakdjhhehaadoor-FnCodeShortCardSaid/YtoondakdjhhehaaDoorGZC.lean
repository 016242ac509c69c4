/-
  Texts of walks and plain lemmas for this seat; no condition.
-/
import Derived.Test.YtoondakdjhhehaaDoorGZB
import Derived.Test.YtoondakdjhhehaaDoorCShW
import Derived.Test.YtoondakdjhhehaaDoorCShS
import Derived.Test.YtoondakdjhhehaaDoorDCRun
import Derived.Test.YtoondakdjhhehaaDoorAliveT
import Derived.Laws.OwnMore
import Derived.Laws.StructEq
import Derived.Deep.QuietTactic
namespace Go.Proofs.YtoondakdjhhehaaDoor
open Go.RowKit
section
set_option linter.unusedVariables false

def plL (r : Nat → Bool) (k : Nat) : List Int := (List.range k).map fun j => ((plcN r j : Nat) : Int)
theorem plL_succ (r : Nat → Bool) (k : Nat) : plL r (k + 1) = plL r k ++ [((plcN r k : Nat) : Int)] := by
  simp [plL, List.range_succ]
theorem plL_len (r : Nat → Bool) (k : Nat) : (plL r k).length = k := by simp [plL]
theorem plL_get (r : Nat → Bool) {k j : Nat} (h : j < k) (h2 : j < (plL r k).length) : (plL r k)[j] = ((plcN r j : Nat) : Int) := by simp [plL]

set_option maxRecDepth 100000 in
set_option maxHeartbeats 6400000 in
theorem spec_CodeShort (lo hi : Nat) (v : Value) (c : List In3) (w : World) (hx : SlC lo hi w v c) (hhi : hi ≤ w.heap.size) (hm : c.length ≤ 1048576) :
    Calls Tryd.prog 15 #[v] w (RetV fun u w' => ∃ zs, zs = shortV c ∧ OwnC w.heap.size w'.heap.size 33 w' u zs ∧ Below w.heap.size w w') := by
  have HV := Lib.hid (spec_CodeValid lo hi v c w hx hhi hm)
  have HX := Lib.hid hx
  obtain ⟨ca, cc, rfl, _, _⟩ := hx.shape
  clear hx
  cases hv : codeV c with
  | false =>
    rw [hv] at HV
    have HE : Hid (([] : List In3) = shortV c) := Lib.hid (by simp [shortV, hv])
    clear hv
    go_enter Tryd.func15, Tryd.ntmps15
    go_wp2_with fail
    refine HV.out.mono ?_
    rintro e w1 ⟨rfl, hb⟩
    have HB := Lib.hid hb
    have HN : Hid (OwnC w.heap.size (w1.alloc (.cells #[] 33)).heap.size 33 (w1.alloc (.cells #[] 33)) (.slice (some ⟨w1.heap.size, 0, none⟩) 0 0) []) := Lib.hid (by
      have h0 := Own.lit 3 33 w1 (inss []) 0 (by omega) rfl
      have e : (w1.alloc (.cells #[] 33)).heap.size = w1.heap.size + 1 := by simp
      rw [e]
      exact Own.wide2 h0 hb.size (Nat.le_refl _))
    have HB2 := Lib.hid (hb.alloc hb.size (.cells #[] 33))
    clear hb
    go_wp2
    go_ret
    exact RetV.mk _ rfl ⟨[], HE.out, HN.out, HB2.out⟩
  | true =>
    rw [hv] at HV
    have HCV := Lib.hid hv
    have HC := Lib.hid (codeV_iff.1 hv)
    have hcl := HC.out.most
    have hcp := HC.out.pos
    have HE : Hid (cutK (rchB (thrC c)) (thrC c) c.length = shortV c) := Lib.hid (by
      rw [shortV, if_pos hv, shortC, cutC, cutK, thrC_length])
    clear hv
    have hn0 : (0 : Int) ≤ (c.length : Int) := by omega
    go_enter Tryd.func15, Tryd.ntmps15
    go_wp2_with fail
    refine HV.out.mono ?_
    rintro e w1 ⟨rfl, hb⟩
    have hs1 := hb.size
    have HB := Lib.hid hb
    clear hb HV
    go_wp2_with fail
    refine (spec_CodeThread lo hi _ c w1 (HX.out.below HB.out hhi) (by omega) HCV.out).mono ?_
    rintro e w2 ⟨_, rfl, ts, hts, hot, hb⟩
    obtain ⟨ta, tc, rfl, _, _⟩ := Sl.shape hot.sl
    have hs2 := hb.size
    replace HB := Lib.hid (HB.out.trans (hb.mono hs1))
    have HOT := Lib.hid hot.sl
    have htl : ts.length = c.length := by rw [hts, thrC_length]
    have HCT : Hid (Code0 ts) := Lib.hid (by rw [hts]; exact thrC_code HC.out)
    rw [← hts] at HE
    rw [htl]
    have HTL := Lib.hid htl
    clear hts hot hb htl HX
    go_wp2_with fail
    refine (spec_CodeReached w1.heap.size w2.heap.size _ ts w2 (by have h := HOT.out; rw [HTL.out] at h; exact h) (Nat.le_refl _) (codeV_iff.2 HCT.out)).mono ?_
    rintro e w3 ⟨_, rfl, bo, oc, bs, hbs, rfl, hrb, hbo, hb⟩
    have hs3 := hb.size
    replace HB := Lib.hid (HB.out.trans (hb.mono (by omega)))
    have hbl : bs.length = c.length := by rw [hbs, rchL_length]; exact HTL.out
    have HBG : Hid (∀ j (h : j < bs.length), bs[j] = rchB ts j) := Lib.hid fun j h => by subst hbs; exact rchL_get (by rw [rchL_length] at h; exact h) h
    obtain ⟨r, hr⟩ : ∃ r, r = rchB ts := ⟨_, rfl⟩
    rw [← hr] at HE HBG
    have HRB := Lib.hid hrb
    have HBL := Lib.hid hbl
    have hblt := hrb.lt
    replace HOT := Lib.hid (HOT.out.below hb (Nat.le_refl _))
    rw [hbl]
    clear hbs hrb hb hbl hr
    have HOP : Hid (Own 1 w3.heap.size (w3.alloc (.cells #[] 3)).heap.size 3 (w3.alloc (.cells #[] 3)) (.slice (some ⟨w3.heap.size, 0, none⟩) 0 0) 0 (ints (plL r 0))) := Lib.hid (by
      have h0 := Own.lit 1 3 w3 (ints []) 0 (by omega) rfl
      have e : (w3.alloc (.cells #[] 3)).heap.size = w3.heap.size + 1 := by simp
      rw [e]
      exact h0)
    have HBP := Lib.hid ((Below.refl w3.heap.size w3).alloc (Nat.le_refl _) (.cells #[] 3))
    have HP0 : Hid (0 = plcN r 0) := Lib.hid rfl
    go_upto_region 9 with fail
    go_loopw [4, 5, 6] (fun pv nv iv wr => ∃ (k p : Nat) (a : Option Addr) (cap : Nat), pv = .slice a k cap ∧ nv = .int .i64 p ∧ iv = .int .i64 k ∧ k ≤ c.length ∧ p ≤ k ∧ Hid (p = plcN r k) ∧ Hid (Own 1 w3.heap.size wr.heap.size 3 wr (.slice a k cap) k (ints (plL r k))) ∧ Hid (Below w3.heap.size w3 wr)) (fun _ _ iv _ => c.length - (intOf iv).toNat)
    case atStart => exact ⟨0, 0, _, 0, rfl, rfl, rfl, by omega, Nat.le_refl _, HP0, HOP, HBP⟩
    case round =>
      obtain ⟨k, p, a, cap, rfl, rfl, rfl, hk, hpk, HPl, HO, HBe⟩ := hrel
      clear HOP HBP HP0
      obtain ⟨wo, rfl⟩ : ∃ x_, x_ = wr := ⟨_, rfl⟩
      have hsr := HBe.out.size
      by_cases hlt : k < c.length
      · have i1 : (k : Int) < c.length := by omega
        have i1d : decide ((k : Int) < (c.length : Int)) = true := decide_eq_true i1
        have hown6 := HO.out
        go_wp2_with (at_builtin; refine wpList_app_lit _ rfl _ _ 43 rfl 3 (.int .i64 0) 1 8 Tryd.underlying43 info_int rfl (by decide) (by decide) rfl hown6 1 (ints [(p : Int)]) rfl rfl (ints_one _) rfl (by omega) hsr ?_)
        intro v' w6 h5 h6 _
        obtain ⟨a8, cap8, rfl, _⟩ := Own.open h5
        have HO8 : Hid (Own 1 w3.heap.size w6.heap.size 3 w6 (.slice a8 (k + 1) cap8) (k + 1) (ints (plL r (k + 1)))) := Lib.hid (by rw [plL_succ, ints_append, ← HPl.out]; exact h5)
        have HB8 := Lib.hid (Below.outside HBe.out h6 (Nat.le_refl _) hsr)
        clear h5 h6 hown6
        have hkb : k < bs.length := by rw [HBL.out]; exact hlt
        have b1 := (HRB.out.below HB8.out hblt).cell k hkb
        rw [HBG.out k hkb] at b1
        cases hrk : r k
        · rw [hrk] at b1
          have HPn : Hid (p = plcN r (k + 1)) := Lib.hid (by rw [plcN_no hrk]; exact HPl.out)
          clear hrk
          go_wp2
          go_roundw
          case rel => exact ⟨k + 1, p, _, _, rfl, rfl, by go_num, by omega, by omega, HPn, HO8, HB8⟩
          case measure => simp [intOf]; omega
        · rw [hrk] at b1
          have HPn : Hid (p + 1 = plcN r (k + 1)) := Lib.hid (by rw [plcN_yes hrk, ← HPl.out])
          clear hrk
          go_wp2
          go_roundw
          case rel => exact ⟨k + 1, p + 1, _, _, rfl, by go_num, by go_num, by omega, by omega, HPn, HO8, HB8⟩
          case measure => simp [intOf]; omega
      · obtain rfl : k = c.length := by omega
        have i1d : decide ((c.length : Int) < (c.length : Int)) = false := by simp
        obtain ⟨w5, rfl⟩ : ∃ x_, x_ = wo := ⟨_, rfl⟩
        have HRB5 := Lib.hid (HRB.out.below HBe.out hblt)
        have HOT5 := Lib.hid (HOT.out.below HBe.out (by omega))
        have HB5 := Lib.hid (HB.out.trans (HBe.out.mono (by have := HB.out.size; omega)))
        have HPL5 := Lib.hid (HO.out.sl)
        have hbl5 : bo < w5.heap.size := by omega
        clear HRB HOT HB HO HPl HBe
        have HOL : Hid (OwnC w5.heap.size (w5.alloc (.cells #[] 33)).heap.size 33 (w5.alloc (.cells #[] 33)) (.slice (some ⟨w5.heap.size, 0, none⟩) 0 0) []) := Lib.hid (by
          have h0 := Own.lit 3 33 w5 (inss []) 0 (by omega) rfl
          have e : (w5.alloc (.cells #[] 33)).heap.size = w5.heap.size + 1 := by simp
          rw [e]
          exact h0)
        have HBL2 := Lib.hid ((Below.refl w5.heap.size w5).alloc (Nat.le_refl _) (.cells #[] 33))
        go_upto_region 17 with fail
        go_loopw [7, 8] (fun v iv wr => ∃ (k : Nat) (os : List In3) (a : Option Addr) (cap : Nat), v = .slice a os.length cap ∧ iv = .int .i64 k ∧ k ≤ c.length ∧ os.length ≤ k ∧ Hid (os = cutK r ts k) ∧ Hid (OwnC w5.heap.size wr.heap.size 33 wr (.slice a os.length cap) os) ∧ Hid (Below w5.heap.size w5 wr)) (fun _ iv _ => c.length - (intOf iv).toNat)
        case atStart => exact ⟨0, [], _, 0, rfl, rfl, by omega, by simp, Lib.hid rfl, HOL, HBL2⟩
        case round =>
          obtain ⟨k, os, a2, cap2, rfl, rfl, hk2, hol, HOS, HOC, HBe⟩ := hrel
          clear HOL HBL2
          obtain ⟨wo, rfl⟩ : ∃ x_, x_ = wr := ⟨_, rfl⟩
          have hsr2 := HBe.out.size
          by_cases hlt : k < c.length
          · have i1 : (k : Int) < c.length := by omega
            have i1d : decide ((k : Int) < (c.length : Int)) = true := decide_eq_true i1
            have hkt : k < ts.length := by rw [HTL.out]; exact hlt
            obtain ⟨b, off, rfl, _, hbh, hbs2, q0, q1, q2⟩ := (HOT5.out.below HBe.out (by omega)).get k hkt
            have hkb : k < bs.length := by rw [HBL.out]; exact hlt
            have b1 := (HRB5.out.below HBe.out hbl5).cell k hkb
            rw [HBG.out k hkb] at b1
            have hins := HCT.out.ins k hkt
            have hto := fun h => HCT.out.to_lt hkt h
            have hxe : insAt ts k = ts[k] := insAt_get hkt
            have HYe : Hid (r k = true → cutK r ts (k + 1) = cutK r ts k ++ [relI r (ts[k])]) := Lib.hid fun h => by rw [cutK_yes h, hxe]
            have HNo : Hid (r k = false → cutK r ts (k + 1) = cutK r ts k) := Lib.hid cutK_no
            rw [hxe] at hins hto
            rw [HTL.out] at hto
            obtain ⟨x, hx⟩ : ∃ x, x = ts[k] := ⟨_, rfl⟩
            rw [← hx] at q0 q1 q2 hins hto HYe
            clear hx hxe
            obtain ⟨kd, ar, tt⟩ := x
            simp only at q0 q1 q2 hto
            cases hrk : r k
            · rw [hrk] at b1
              have HO8 : Hid (os = cutK r ts (k + 1)) := Lib.hid (by rw [HNo.out hrk]; exact HOS.out)
              clear hrk HYe HNo hto hins
              go_wp2
              go_roundw
              case rel => exact ⟨k + 1, os, _, _, rfl, by go_num, by omega, by omega, HO8, HOC, HBe⟩
              case measure => simp [intOf]; omega
            · rw [hrk] at b1
              replace HYe := Lib.hid (HYe.out hrk)
              clear hrk HNo
              obtain ⟨wx, hwx⟩ : ∃ wx, wx = wo.alloc (.cells #[.int .i64 kd, .int .i64 ar, .int .i64 tt] 33) := ⟨_, rfl⟩
              obtain ⟨hbx, KX_, hsx⟩ := box_facts3 hwx
              have KX := Lib.hid KX_
              have HWX := Lib.hid hwx
              have HBX := Lib.hid (HBe.out.trans (hbx.mono hsr2))
              have HQX := Lib.hid (HOC.out.below hbx (Nat.le_refl _))
              have x0 := KX_.cell 0
              have x1 := KX_.cell 1
              have x2 := KX_.cell 2
              have f2 := KX_.free 2
              have hgx := KX_.lt
              have hszX := HBX.out.size
              obtain ⟨gx, hgxe⟩ : ∃ gx, gx = wo.heap.size := ⟨_, rfl⟩
              rw [← hgxe] at KX x0 x1 x2 f2 hgx
              have hgx2 : w5.heap.size ≤ gx := by omega
              have hgx3 : wo.heap.size ≤ gx := by omega
              have HGX := Lib.hid hgxe
              clear KX_ hbx HOC hwx hgxe
              go_upto_region 19 with (rw [← HWX.out])
              try rw [← HWX.out]
              rw [← HGX.out]
              by_cases hgo : kd = 1 ∨ kd = 2
              · have ht := hto hgo
                have ht0 := (insB_to hins hgo).1
                simp only at ht0
                obtain ⟨t0, rfl⟩ : ∃ t0 : Nat, tt = t0 := ⟨tt.toNat, by omega⟩
                rw [Int.toNat_natCast] at ht
                have hpx : t0 < (plL r c.length).length := by rw [plL_len]; exact ht
                have HPX : Hid (SlI w3.heap.size w5.heap.size wx (.slice a c.length cap) (plL r c.length)) := Lib.hid (by
                  have h := Sl.below HPL5.out HBX.out (Nat.le_refl _)
                  unfold SlI
                  rw [plL_len]
                  exact h)
                obtain ⟨bp, offp, rfl, _, _, _, p1⟩ := HPX.out.get t0 hpx
                rw [plL_get r ht hpx] at p1
                have i2 : (t0 : Int) < c.length := by omega
                obtain ⟨pv, hpve⟩ : ∃ pv, pv = plcN r t0 := ⟨_, rfl⟩
                rw [← hpve] at p1
                have HYes : Hid (cutK r ts (k + 1) = cutK r ts k ++ [⟨kd, ar, (pv : Int)⟩]) := Lib.hid (by rw [HYe.out, hpve, relI, if_pos (goesB_iff.2 hgo)]; rfl)
                have KYp := KX.out.put 2 (.int .i64 (pv : Int))
                have OYp := Outside.put gx 2 wx (.int .i64 (pv : Int))
                obtain ⟨wy, hwy⟩ : ∃ wy, wy = wx.setCell ⟨gx, 2, none⟩ (.int .i64 (pv : Int)) := ⟨_, rfl⟩
                rw [← hwy] at KYp OYp
                have KY : Hid (Blk gx (.cells #[.int .i64 kd, .int .i64 ar, .int .i64 (pv : Int)] 33) wy) := Lib.hid (by simpa using KYp)
                have hsY := OYp.size
                have HSY : Hid (OwnC w5.heap.size wo.heap.size 33 wy (.slice a2 os.length cap2) os) := Lib.hid (HQX.out.outside OYp (.inl hgx3))
                have HBY := Lib.hid (Below.outside HBX.out OYp hgx2 hszX)
                have hszY : w5.heap.size ≤ wy.heap.size := by omega
                have HWY := Lib.hid hwy
                have hgg : ((kd == 1) = true ∨ ((kd == 1) = false ∧ (kd == 2) = true)) := by
                  rcases hgo with h | h
                  · subst h
                    exact .inl rfl
                  · subst h
                    exact .inr ⟨rfl, rfl⟩
                clear KYp OYp hwy hpve HYe hto hins hpx hgo
                rcases hgg with g1 | ⟨g1, g2⟩
                all_goals
                  go_upto_region 21 with (rw [← HWY.out])
                  try rw [← HWY.out]
                  clear x0 x1 x2 f2
                  have k0 := KY.out.cell 0
                  have k1 := KY.out.cell 1
                  have k2 := KY.out.cell 2
                  have hownA := HSY.out
                  go_wp2_with (at_builtin; go_loud (refine wpList_app_lit _ rfl _ _ 26 rfl 33 (.agg #[.int .i64 0, .int .i64 0, .int .i64 0]) 3 24 Tryd.underlying26 info_ins rfl (by decide) (by decide) rfl hownA 1 (inss [⟨kd, ar, (pv : Int)⟩]) rfl rfl (inss_one _) rfl (by omega) hszY ?_))
                  intro v' w8 h5 h6 _
                  obtain ⟨a8, cap8, rfl, _⟩ := Own.open h5
                  have HR8 : Hid (OwnC w5.heap.size w8.heap.size 33 w8 (.slice a8 (os.length + 1) cap8) (os ++ [⟨kd, ar, (pv : Int)⟩])) := Lib.hid (OwnC.len (n := os.length + 1) (by rw [inss_append]; exact h5) (by simp))
                  have HB8 := Lib.hid (Below.outside HBY.out h6 (Nat.le_refl _) hszY)
                  have HL8 : Hid (os.length + 1 = (os ++ ([⟨kd, ar, (pv : Int)⟩] : List In3)).length) := Lib.hid (by simp)
                  clear h5 h6 hownA
                  obtain ⟨os8, hos8⟩ : ∃ os8 : List In3, os8 = os ++ ([⟨kd, ar, (pv : Int)⟩] : List In3) := ⟨_, rfl⟩
                  rw [← hos8] at HR8 HL8
                  have HO8 : Hid (os8 = cutK r ts (k + 1)) := Lib.hid (by rw [hos8, HYes.out, HOS.out])
                  clear hos8 k0 k1 k2
                  have hl8 : os8.length ≤ k + 1 := by rw [← HL8.out]; omega
                  rw [HL8.out]
                  rw [HL8.out] at HR8
                  go_wp2
                  go_roundw
                  case rel => exact ⟨k + 1, os8, _, _, rfl, by go_num, by omega, hl8, HO8, HR8, HB8⟩
                  case measure => simp [intOf]; omega
              · have h1 : (kd == 1) = false := by simp; omega
                have h2 : (kd == 2) = false := by simp; omega
                have HYes : Hid (cutK r ts (k + 1) = cutK r ts k ++ [⟨kd, ar, tt⟩]) := Lib.hid (by rw [HYe.out, relI, if_neg (fun h => hgo (goesB_iff.1 h))])
                have KY := KX
                have HSY : Hid (OwnC w5.heap.size wo.heap.size 33 wx (.slice a2 os.length cap2) os) := HQX
                have HBY := HBX
                have hszY : w5.heap.size ≤ wx.heap.size := by omega
                clear HYe hto hins hgo x0 x1 x2 f2
                have k0 := KY.out.cell 0
                have k1 := KY.out.cell 1
                have k2 := KY.out.cell 2
                have hownA := HSY.out
                go_wp2_with (at_builtin; go_loud (refine wpList_app_lit _ rfl _ _ 26 rfl 33 (.agg #[.int .i64 0, .int .i64 0, .int .i64 0]) 3 24 Tryd.underlying26 info_ins rfl (by decide) (by decide) rfl hownA 1 (inss [⟨kd, ar, tt⟩]) rfl rfl (inss_one _) rfl (by omega) hszY ?_))
                intro v' w8 h5 h6 _
                obtain ⟨a8, cap8, rfl, _⟩ := Own.open h5
                have HR8 : Hid (OwnC w5.heap.size w8.heap.size 33 w8 (.slice a8 (os.length + 1) cap8) (os ++ [⟨kd, ar, tt⟩])) := Lib.hid (OwnC.len (n := os.length + 1) (by rw [inss_append]; exact h5) (by simp))
                have HB8 := Lib.hid (Below.outside HBY.out h6 (Nat.le_refl _) hszY)
                have HL8 : Hid (os.length + 1 = (os ++ ([⟨kd, ar, tt⟩] : List In3)).length) := Lib.hid (by simp)
                clear h5 h6 hownA
                obtain ⟨os8, hos8⟩ : ∃ os8 : List In3, os8 = os ++ ([⟨kd, ar, tt⟩] : List In3) := ⟨_, rfl⟩
                rw [← hos8] at HR8 HL8
                have HO8 : Hid (os8 = cutK r ts (k + 1)) := Lib.hid (by rw [hos8, HYes.out, HOS.out])
                clear hos8 k0 k1 k2
                have hl8 : os8.length ≤ k + 1 := by rw [← HL8.out]; omega
                rw [HL8.out]
                rw [HL8.out] at HR8
                go_wp2
                go_roundw
                case rel => exact ⟨k + 1, os8, _, _, rfl, by go_num, by omega, hl8, HO8, HR8, HB8⟩
                case measure => simp [intOf]; omega
          · obtain rfl : k = c.length := by omega
            have HF : Hid (OwnC w.heap.size wo.heap.size 33 wo (.slice a2 os.length cap2) os ∧ Below w.heap.size w wo) := Lib.hid ⟨Own.wide2 HOC.out (by have := HB5.out.size; omega) (Nat.le_refl _), HB5.out.trans (HBe.out.mono HB5.out.size)⟩
            have HEq : Hid (os = shortV c) := Lib.hid (by rw [HOS.out]; exact HE.out)
            clear HOC HBe HOS
            go_wp2
            go_ret
            exact RetV.mk _ rfl ⟨os, HEq.out, HF.out.1, HF.out.2⟩
end

section

set_option maxRecDepth 100000 in
set_option maxHeartbeats 1600000 in
theorem sameCode_any (la ha lb hb : Nat) (va vb : Value) (xs : List In3) (w : World) (hx : SlC la ha w va xs) (hy : SlC lb hb w vb xs) (hm : xs.length ≤ 1048576) :
    Calls Tryd.prog 14 #[va, vb] w fun e w' => e = .returned (.bool true) ∧ Below w.heap.size w w' := by
  obtain ⟨a, ca, rfl, _, _⟩ := hx.shape
  obtain ⟨b, cb, rfl, _, _⟩ := hy.shape
  have HX := Lib.hid hx
  have HY := Lib.hid hy
  clear hx hy
  have hl1 : ((xs.length : Int) != xs.length) = false := by simp
  go_enter Tryd.func14, Tryd.ntmps14
  go_wp2
  go_loopw [5] (fun i wr => ∃ k m : Nat, k ≤ xs.length ∧ i = .int .i64 k ∧ wr = w.drewN m) (fun i _ => xs.length - (intOf i).toNat)
  case atStart => exact ⟨0, 0, by omega, rfl, rfl⟩
  case round =>
    obtain ⟨k, m, hk, rfl, rfl⟩ := hrel
    by_cases hlt : k < xs.length
    · obtain ⟨b1, o1, rfl, _, _, _, q0, q1, q2⟩ := HX.out.get k hlt
      obtain ⟨b2, o2, rfl, _, _, _, r0, r1, r2⟩ := HY.out.get k hlt
      obtain ⟨A, hA⟩ : ∃ A, A = xs[k] := ⟨_, rfl⟩
      rw [← hA] at q0 q1 q2 r0 r1 r2
      clear hA
      have e0 : (A.kind == A.kind) = true := by simp
      have e1 : (A.arg == A.arg) = true := by simp
      have e2 : (A.to == A.to) = true := by simp
      go_wp2
      go_quiet (fail)
      go_wp2
      go_roundw
      case rel => exact ⟨k + 1, m + nq, by omega, by go_num, by first | rfl | rw [World.drewN_drewN]⟩
      case measure => simp [intOf]; omega
    · go_wp2
      go_ret
      exact ⟨rfl, below_drewN (Below.refl _ _) _⟩
end
end Go.Proofs.YtoondakdjhhehaaDoor
