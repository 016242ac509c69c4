/-
  Texts of walks and plain lemmas for this seat; no condition.
-/
import Derived.Test.YtoondakdjhhehaaDoorGZA
import Derived.Test.YtoondakdjhhehaaDoorGZB
import Derived.Test.YtoondakdjhhehaaDoorCShS
import Derived.Laws.OwnMore
namespace Go.Proofs.YtoondakdjhhehaaDoor
open Go.RowKit
set_option linter.unusedVariables false

/-- The row on its way, the code and what lay below. -/
def RSm (w : World) (gb lo hi : Nat) (v : Value) (c : List In3) (wr : World) (bs : List Bool) : Prop := RowB gb wr c.length bs ∧ SlC lo hi wr v c ∧ Below w.heap.size w wr
theorem RSm.below {w : World} {gb lo hi : Nat} {v : Value} {c : List In3} {wr wx : World} {bs : List Bool} (h : RSm w gb lo hi v c wr bs) (hb : Below wr.heap.size wr wx) (hs : w.heap.size ≤ wr.heap.size) (hhi : hi ≤ w.heap.size) (hg : gb < wr.heap.size) : RSm w gb lo hi v c wx bs :=
  ⟨h.1.below hb hg, h.2.1.below hb (by omega), h.2.2.trans (hb.mono hs)⟩
theorem RSm.put {w : World} {gb lo hi : Nat} {v : Value} {c : List In3} {wr : World} {bs : List Bool} (h : RSm w gb lo hi v c wr bs) (i : Nat) (hhi : hi ≤ w.heap.size) (hg : w.heap.size ≤ gb) : RSm w gb lo hi v c (wr.setCell ⟨gb, i, none⟩ (.bool true)) (bs.set i true) := by
  obtain ⟨h1, h2⟩ := h.1.put i true
  exact ⟨h1, h.2.1.outside h2 (.inl (by omega)), Below.outside h.2.2 h2 hg h.2.2.size⟩

set_option maxRecDepth 100000 in
set_option maxHeartbeats 3200000 in
theorem spec_CodeReached (lo hi : Nat) (v : Value) (c : List In3) (w : World) (hx : SlC lo hi w v c) (hhi : hi ≤ w.heap.size) (hc : codeV c = true) :
    Calls Tryd.prog 51 #[v] w (RetV fun u w' => ∃ bo oc bs, bs = rchL c ∧ u = .slice (some ⟨bo, 0, none⟩) bs.length oc ∧ RowB bo w' oc bs ∧ w.heap.size ≤ bo ∧ Below w.heap.size w w') := by
  have HC := Lib.hid (codeV_iff.1 hc)
  have HCV := Lib.hid hc
  have hcl := HC.out.most
  have hcp := HC.out.pos
  obtain ⟨ca, cc, rfl, _, _⟩ := hx.shape
  have HX := Lib.hid hx
  clear hx hc
  obtain ⟨i0, hi0, hz0, hz1, hz2⟩ := info_parts info_bool
  have hn0 : (0 : Int) ≤ (c.length : Int) := by omega
  go_enter Tryd.func51, Tryd.ntmps51
  go_wp2_with fail
  refine (spec_CodeValid lo hi _ c w HX.out (by omega) (by omega)).mono ?_
  rintro e w0 ⟨rfl, hb⟩
  rw [HCV.out]
  have hs0 := hb.size
  replace HX := Lib.hid (HX.out.below hb hhi)
  have HB := Lib.hid hb
  clear hb
  go_wp2_with ((at_make; refine wpList_make_full _ rfl _ _ 39 rfl w0.heap.size 4 i0 (.bool false) 1 Tryd.underlying39 hi0 hz0 hz1 .i64 .i64 c.length c.length c.length rfl rfl rfl rfl ?c1 ?c2 ?c3 ?c4))
  case c1 => rw [hz2]; omega
  case c2 => simp [maxLen]; omega
  case c3 => exact Nat.le_refl _
  case c4 =>
    intro w1 hown hg
    have hb1 : Below w0.heap.size w0 w1 := (Below.refl _ _).grown hg (Nat.le_refl _) (by simp)
    have hs1 := hb1.size
    have hrl : (List.replicate c.length false).length = c.length := by simp
    have hR1 : RowB w0.heap.size w1 c.length (List.replicate c.length false) := by
      unfold RowB
      rw [toList_madeCells_one] at hown
      rw [hrl, show bools (List.replicate c.length false) = List.replicate c.length (.bool false) by simp [bools]]
      exact hown
    have hlt1 := hR1.lt
    have n1 : w1.cell? ⟨w0.heap.size, 0, none⟩ = some (.bool false) := by
      have h := hR1.cell 0 (by rw [List.length_replicate]; exact hcp)
      rwa [List.getElem_replicate] at h
    have n2 := hR1.free 0
    obtain ⟨h1, h2⟩ := hR1.put 0 true
    replace HX := Lib.hid (HX.out.below hb1 (by omega))
    have HB1 := Lib.hid (HB.out.trans (hb1.mono hs0))
    have HR2 := Lib.hid h1
    have HO2 := Lib.hid h2
    have HP0 := Lib.hid (Pn.start HC.out)
    obtain ⟨gb, hgb⟩ : ∃ gb, gb = w0.heap.size := ⟨_, rfl⟩
    rw [← hgb] at HR2 HO2 hlt1 n1 n2 ⊢
    have hgb2 : w.heap.size ≤ gb := by omega
    have hgb3 : w0.heap.size ≤ gb := by omega
    obtain ⟨w2, hw2⟩ : ∃ w2, w2 = w1.setCell ⟨gb, 0, none⟩ (.bool true) := ⟨_, rfl⟩
    rw [← hw2] at HR2 HO2
    have HW2 := Lib.hid hw2
    clear hown hg hb1 hR1 h1 h2 hi0 hz0 hz1 hz2 hgb hw2
    go_upto_region 5 with (rw [← HW2.out])
    have HX2 := Lib.hid (HX.out.outside HO2.out (.inl (by omega)))
    have HB2 := Lib.hid (Below.outside HB1.out HO2.out hgb2 HB1.out.size)
    have hs2 := HO2.out.size
    clear HW2 HO2 HX HB1 HB n1 n2 hrl
    go_wp2
    go_loopw [4] (fun nv wr => ∃ (n : Nat) (bs : List Bool), nv = .int .i64 n ∧ n ≤ c.length ∧ gb < wr.heap.size ∧ Hid (Pn c bs n) ∧ Hid (RowB gb wr c.length bs) ∧ Hid (SlC lo hi wr (.slice ca c.length cc) c) ∧ Hid (Below w.heap.size w wr)) (fun nv _ => c.length - (intOf nv).toNat)
    case atStart => exact ⟨0, _, rfl, by omega, by omega, HP0, HR2, HX2, HB2⟩
    case round =>
      obtain ⟨n, bs0, rfl, hn, hgw, HP, HR, HX, HB⟩ := hrel
      clear HP0 HR2 HX2 HB2
      obtain ⟨wo, rfl⟩ : ∃ x_, x_ = wr := ⟨_, rfl⟩
      by_cases hlt : n < c.length
      · have i1 : (n : Int) < c.length := by omega
        have i1d : decide ((n : Int) < (c.length : Int)) = true := decide_eq_true i1
        have HQ0 := Lib.hid HP.out.pass
        go_upto_region 9 with fail
        go_loopw [5] (fun kv wr => ∃ (k : Nat) (bs : List Bool), kv = .int .i64 k ∧ k ≤ c.length ∧ gb < wr.heap.size ∧ Hid (Ps c bs0 bs k) ∧ Hid (RSm w gb lo hi (.slice ca c.length cc) c wr bs)) (fun kv _ => c.length - (intOf kv).toNat)
        case atStart => exact ⟨0, bs0, rfl, by omega, hgw, HQ0, Lib.hid ⟨HR.out, HX.out, HB.out⟩⟩
        case round =>
          obtain ⟨k, bs, rfl, hk, hgr, HPs, HS⟩ := hrel
          clear HQ0 HR HX HB
          obtain ⟨wi, rfl⟩ : ∃ x_, x_ = wr := ⟨_, rfl⟩
          have hsi := HS.out.2.2.size
          by_cases hlk : k < c.length
          · have j1 : (k : Int) < c.length := by omega
            have j1d : decide ((k : Int) < (c.length : Int)) = true := decide_eq_true j1
            obtain ⟨b, off, rfl, _, hbh, hbs2, q0, q1, q2⟩ := HS.out.2.1.get k hlk
            have hins := HC.out.ins k hlk
            have hto := fun h => HC.out.to_lt hlk h
            have hsu := fun h => HC.out.succ_lt hlk h
            have hxe : insAt c k = c[k] := insAt_get hlk
            have HMk : Hid (∀ b, bs[k]? = some true → Suc c k b → b < c.length → Ps c bs0 (bs.set b true) k) := Lib.hid fun b h1 h2 h3 => HPs.out.mark h1 h2 h3
            have HLen := Lib.hid HPs.out.len
            have HS1 : Hid (c[k].kind < 2 → Suc c k (k + 1)) := Lib.hid fun h => .inl ⟨by rw [hxe]; exact h, rfl⟩
            have HS2 : Hid (c[k].kind = 1 ∨ c[k].kind = 2 → Suc c k c[k].to.toNat) := Lib.hid fun h => .inr ⟨by rw [hxe]; exact h, by rw [hxe]⟩
            have HU0 : Hid (∀ b, c[k].kind = 0 → Suc c k b → b = k + 1) := Lib.hid fun b h h2 => h2.of0 (by rw [hxe]; exact h)
            have HU1 : Hid (∀ b, Suc c k b → b = k + 1 ∨ b = c[k].to.toNat) := Lib.hid fun b h2 => by have := h2.of1; rwa [hxe] at this
            have HU2 : Hid (∀ b, c[k].kind = 2 → Suc c k b → b = c[k].to.toNat) := Lib.hid fun b h h2 => by have := h2.of2 (by rw [hxe]; exact h); rwa [hxe] at this
            have HU3 : Hid (∀ b, c[k].kind = 3 → ¬ Suc c k b) := Lib.hid fun b h => Suc.of3 (by rw [hxe]; exact h)
            rw [hxe] at hins hto hsu
            obtain ⟨x, hx⟩ : ∃ x, x = c[k] := ⟨_, rfl⟩
            rw [← hx] at q0 q1 q2 hins hto hsu HS1 HS2 HU0 HU1 HU2 HU3
            clear hx hxe
            obtain ⟨kd, ar, tt⟩ := x
            simp only at q0 q1 q2 hto hsu HS1 HS2 HU0 HU1 HU2 HU3
            have hki := insB_kind hins
            simp only at hki
            obtain ⟨wx, hwx⟩ : ∃ wx, wx = wi.alloc (.cells #[.int .i64 kd, .int .i64 ar, .int .i64 tt] 33) := ⟨_, rfl⟩
            obtain ⟨hbx, KX_, hsx⟩ := box_facts3 hwx
            have KX := Lib.hid KX_
            have HWX := Lib.hid hwx
            have HSX := Lib.hid (HS.out.below hbx hsi hhi hgr)
            have x0 := KX_.cell 0
            have x1 := KX_.cell 1
            have x2 := KX_.cell 2
            have hgx := KX_.lt
            obtain ⟨gx, hgxe⟩ : ∃ gx, gx = wi.heap.size := ⟨_, rfl⟩
            rw [← hgxe] at KX x0 x1 x2 hgx
            have hgx3 : gb < gx := by omega
            have hgbx : gb < wx.heap.size := by omega
            have HGX := Lib.hid hgxe
            clear KX_ hbx HS hwx hgxe
            go_upto_region 12 with (rw [← HWX.out])
            try rw [← HWX.out]
            rw [← HGX.out]
            have hkb : k < bs.length := by rw [HLen.out]; exact hlk
            have b1 := HSX.out.1.cell k hkb
            cases hbk : bs[k] with
            | false =>
              rw [hbk] at b1
              have HP8 := Lib.hid (HPs.out.next fun h => by rw [List.getElem?_eq_getElem hkb, hbk] at h; cases h)
              clear hbk hto hsu hins hki
              go_wp2
              go_roundw
              case rel => exact ⟨k + 1, bs, by go_num, by omega, hgbx, HP8, HSX⟩
              case measure => simp [intOf]; omega
            | true =>
              rw [hbk] at b1
              have HBK : Hid (bs[k]? = some true) := Lib.hid (by rw [List.getElem?_eq_getElem hkb, hbk])
              clear hbk
              by_cases k3 : kd = 3
              · subst k3
                have HP8 := Lib.hid (HPs.out.next fun _ b h => absurd h (HU3.out b rfl))
                clear hto hsu hins hki
                go_wp2
                go_roundw
                case rel => exact ⟨k + 1, bs, by go_num, by omega, hgbx, HP8, HSX⟩
                case measure => simp [intOf]; omega
              · by_cases k2 : kd = 2
                · subst k2
                  have ht := hto (.inr rfl)
                  have ht0 := (insB_to hins (.inr rfl)).1
                  simp only at ht0
                  obtain ⟨t0, rfl⟩ : ∃ t0 : Nat, tt = t0 := ⟨tt.toNat, by omega⟩
                  simp only [Int.toNat_natCast] at ht HS2 HU2
                  have htb : t0 < bs.length := by rw [HLen.out]; exact ht
                  have i2 : (t0 : Int) < c.length := by omega
                  have HP8 : Hid (Ps c bs0 (bs.set t0 true) (k + 1)) := Lib.hid (Ps.next (HMk.out t0 HBK.out (HS2.out (by simp)) ht) fun _ b h => by
                    obtain rfl := HU2.out b (by simp) h
                    exact set_here htb)
                  have n1 := HSX.out.1.cell t0 htb
                  have n2 := HSX.out.1.free t0
                  have HSY := Lib.hid (HSX.out.put t0 hhi hgb2)
                  clear hto hsu hins hki
                  go_wp2
                  go_roundw
                  case rel => exact ⟨k + 1, _, by go_num, by omega, by simp; omega, HP8, HSY⟩
                  case measure => simp [intOf]; omega
                · have hk2 : kd < 2 := by omega
                  have hsk := hsu hk2
                  have hsb : k + 1 < bs.length := by rw [HLen.out]; exact hsk
                  have i3 : (k : Int) + 1 < c.length := by omega
                  have HPm := Lib.hid (HMk.out (k + 1) HBK.out (HS1.out hk2) hsk)
                  have n1 := HSX.out.1.cell (k + 1) hsb
                  have n2 := HSX.out.1.free (k + 1)
                  have HSY := HSX.out.put (k + 1) hhi hgb2
                  have OY := Outside.put gb (k + 1) wx (.bool true)
                  have HBK2 : Hid ((bs.set (k + 1) true)[k]? = some true) := Lib.hid (set_keep HBK.out)
                  have HSe : Hid ((bs.set (k + 1) true)[k + 1]? = some true) := Lib.hid (set_here hsb)
                  obtain ⟨bs2, hbs2⟩ : ∃ bs2, bs2 = bs.set (k + 1) true := ⟨_, rfl⟩
                  obtain ⟨wy, hwy⟩ : ∃ wy, wy = wx.setCell ⟨gb, k + 1, none⟩ (.bool true) := ⟨_, rfl⟩
                  rw [← hbs2] at HPm HSY HBK2 HSe
                  rw [← hwy] at HSY OY
                  replace HSY := Lib.hid HSY
                  have KY := Lib.hid (KX.out.outside OY (.inr hgx3))
                  have hsy := OY.size
                  have HWY := Lib.hid hwy
                  have HL2 : Hid (bs2.length = c.length) := Lib.hid HPm.out.len
                  clear hwy hbs2 OY
                  go_upto_region 14 with (rw [← HWY.out])
                  try rw [← HWY.out]
                  have hkb2 : k < bs2.length := by rw [HL2.out]; exact hlk
                  clear x0 x1 x2 b1 n1 n2
                  have b2 := HSY.out.1.cell k hkb2
                  rw [show bs2[k] = true from (List.getElem?_eq_some_iff.1 HBK2.out).2] at b2
                  have y0 := KY.out.cell 0
                  have y1 := KY.out.cell 1
                  have y2 := KY.out.cell 2
                  by_cases k1 : kd = 1
                  · subst k1
                    have ht := hto (.inl rfl)
                    have ht0 := (insB_to hins (.inl rfl)).1
                    simp only at ht0
                    obtain ⟨t0, rfl⟩ : ∃ t0 : Nat, tt = t0 := ⟨tt.toNat, by omega⟩
                    simp only [Int.toNat_natCast] at ht HS2 HU1
                    have htb : t0 < bs2.length := by rw [HL2.out]; exact ht
                    have i2 : (t0 : Int) < c.length := by omega
                    have HP8 : Hid (Ps c bs0 (bs2.set t0 true) (k + 1)) := Lib.hid (Ps.next (HPm.out.mark HBK2.out (HS2.out (by simp)) ht) fun _ b h => by
                      rcases HU1.out b h with rfl | rfl
                      · exact set_keep HSe.out
                      · exact set_here htb)
                    have m1 := HSY.out.1.cell t0 htb
                    have m2 := HSY.out.1.free t0
                    have HSZ := Lib.hid (HSY.out.put t0 hhi hgb2)
                    clear hto hsu hins hki
                    go_wp2
                    go_roundw
                    case rel => exact ⟨k + 1, _, by go_num, by omega, by simp; omega, HP8, HSZ⟩
                    case measure => simp [intOf]; omega
                  · obtain rfl : kd = 0 := by omega
                    have HP8 : Hid (Ps c bs0 bs2 (k + 1)) := Lib.hid (HPm.out.next fun _ b h => by
                      obtain rfl := HU0.out b rfl h
                      exact HSe.out)
                    clear hto hsu hins hki
                    go_wp2
                    go_roundw
                    case rel => exact ⟨k + 1, _, by go_num, by omega, by omega, HP8, HSY⟩
                    case measure => simp [intOf]; omega
          · obtain rfl : k = c.length := by omega
            have j1d : decide ((c.length : Int) < (c.length : Int)) = false := by simp
            have HP8 := Lib.hid (HPs.out.done HP.out (Nat.le_refl _))
            go_wp2
            go_roundw
            case rel => exact ⟨n + 1, bs, by go_num, by omega, hgr, HP8, Lib.hid HS.out.1, Lib.hid HS.out.2.1, Lib.hid HS.out.2.2⟩
            case measure => simp [intOf]; omega
      · obtain rfl : n = c.length := by omega
        have i1d : decide ((c.length : Int) < (c.length : Int)) = false := by simp
        have HE := Lib.hid (HP.out.done HC.out (Nat.le_refl _))
        have HL := Lib.hid HP.out.len
        go_wp2
        go_ret
        exact RetV.mk _ rfl ⟨gb, c.length, bs0, HE.out, by rw [HL.out]; rfl, HR.out, hgb2, HB.out⟩
end Go.Proofs.YtoondakdjhhehaaDoor
