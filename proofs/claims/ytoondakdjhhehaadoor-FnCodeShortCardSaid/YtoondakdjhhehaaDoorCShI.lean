/-
  Texts of walks and plain lemmas for this seat; no condition.
-/
import Derived.Test.YtoondakdjhhehaaDoorGZA
import Derived.Test.YtoondakdjhhehaaDoorCIns
import Derived.Test.YtoondakdjhhehaaDoorCVal
import Derived.Test.YtoondakdjhhehaaDoorSCode
import Derived.Lib.BufferMore
import Derived.Laws.OwnMore
namespace Go.Proofs.YtoondakdjhhehaaDoor
open Go.RowKit
set_option linter.unusedVariables false

set_option maxRecDepth 100000 in
set_option maxHeartbeats 1600000 in
/-- slices.Clone of a code. -/
theorem cloneC_any (lo hi : Nat) (v : Value) (xs : List In3) (w : World) (hx : SlC lo hi w v xs) (hm : xs.length ≤ 1048576) :
    Calls Tryd.prog 76 #[v] w (RetV fun v' w' => Below w.heap.size w w' ∧ OwnC w.heap.size w'.heap.size 33 w' v' xs) := by
  obtain ⟨a, cap, rfl, hcap, hcm, hl, hnone, hc⟩ := hx
  cases a with
  | none =>
    obtain rfl := hnone rfl
    have hx0 : xs = [] := List.eq_nil_of_length_eq_zero (by omega)
    subst hx0
    have heq : ∀ w, (binOp .eql 26 (.slice none 0 0) (.slice none 0 0)).run Tryd.prog w = .ok (.bool true) w := fun w => Lib.run_eql_slice_nil_nil w 0 0 Tryd.underlying26
    go_enter Tryd.func76, Tryd.ntmps76
    go_wp2
    go_ret
    exact RetV.mk _ rfl ⟨Below.refl _ _, Own.nil _ _ _ _ _⟩
  | some ad =>
    have HX : Hid (Sl 3 lo hi w (.slice (some ad) xs.length cap) xs.length (inss xs)) := Lib.hid ⟨some ad, cap, rfl, hcap, hcm, hl, hnone, hc⟩
    have HOL : Hid (Own 3 w.heap.size (w.heap.size + 1) 33 (w.alloc (.cells #[] 33)) (.slice (some ⟨w.heap.size, 0, none⟩) 0 0) 0 []) := Lib.hid (Own.lit 3 33 w [] 0 (by omega) rfl)
    have HA := Lib.hid ((Below.refl w.heap.size w).alloc (Nat.le_refl _) (.cells #[] 33))
    have HXA : Hid (Sl 3 lo hi (w.alloc (.cells #[] 33)) (.slice (some ad) xs.length cap) xs.length (inss xs)) := by
      refine Lib.hid ⟨some ad, cap, rfl, hcap, hcm, hl, hnone, fun i hi' => ?_⟩
      obtain ⟨b, off, e, e1, e2, e3, e4⟩ := hc i hi'
      exact ⟨b, off, e, e1, e2, by simp; omega, by rw [World.cell?_alloc_lt _ _ ⟨b, off + i, none⟩ e3]; exact e4⟩
    have heq : ∀ w, (binOp .eql 26 (.slice (some ad) xs.length cap) (.slice none 0 0)).run Tryd.prog w = .ok (.bool false) w := fun w => Lib.run_eql_slice_some_nil w ad xs.length cap Tryd.underlying26
    clear hl hnone hc
    go_enter Tryd.func76, Tryd.ntmps76
    go_wp2_with (at_builtin; go_loud (refine wpList_app_sl rfl _ _ 26 rfl 33 (.agg #[.int .i64 0, .int .i64 0, .int .i64 0]) 3 24 Tryd.underlying26 info_ins rfl (by decide) (by decide) rfl HOL.out rfl HXA.out (inss_one _) (by omega) (by simp) ?_))
    intro v2 w2 ho2 _ hout2 _
    have HO2 := Lib.hid ho2
    have HB2 := Lib.hid (Below.outside HA.out hout2 (Nat.le_refl _) (by simp))
    obtain ⟨a2, c2, rfl, _⟩ := Own.open ho2
    clear ho2 hout2
    go_wp2
    go_ret
    exact RetV.mk _ rfl ⟨HB2.out, OwnC.len (n := 0 + xs.length) (by simpa using HO2.out) (by simp)⟩

theorem inss_set_to : ∀ (l : List In3) (i : Nat) (h : i < l.length) (t : Int), (inss l).set (i * 3 + 2) (.int .i64 t) = inss (l.set i ⟨l[i].kind, l[i].arg, t⟩)
  | [], i, h, t => by simp at h
  | x :: r, 0, h, t => by simp [inss, encI]
  | x :: r, i + 1, h, t => by
    have hi : i < r.length := by simpa using h
    have ih := inss_set_to r i hi t
    have e : inss (x :: r) = encI x ++ inss r := by simp [inss]
    have e2 : inss ((x :: r).set (i + 1) ⟨(x :: r)[i + 1].kind, (x :: r)[i + 1].arg, t⟩) = encI x ++ inss (r.set i ⟨r[i].kind, r[i].arg, t⟩) := by simp [inss]
    rw [e2, ← ih, e, List.set_append_right _ _ (by simp [encI]; omega)]
    congr 2
    simp [encI]; omega
/-- An instruction's To is stored anew. -/
theorem OwnC.to {lo hi n cap : Nat} {w : World} {a : Option Addr} {zs : List In3} (h : OwnC lo hi 33 w (.slice a n cap) zs) (hn : n = zs.length) (i : Nat) (hi' : i < zs.length) (t : Int) :
    ∃ b, a = some ⟨b, 0, none⟩ ∧ lo ≤ b ∧ b < hi ∧ b < w.heap.size ∧ w.frozen? ⟨b, i * 3 + 2, none⟩ = false ∧ w.cell? ⟨b, i * 3 + 2, none⟩ = some (.int .i64 zs[i].to) ∧
      OwnC lo hi 33 (w.setCell ⟨b, i * 3 + 2, none⟩ (.int .i64 t)) (.slice a n cap) (zs.set i ⟨zs[i].kind, zs[i].arg, t⟩) ∧ Outside lo hi w (w.setCell ⟨b, i * 3 + 2, none⟩ (.int .i64 t)) := by
  subst hn
  obtain ⟨a', cap', e, _, _, _, hb⟩ := Own.open h
  injection e with ea _ ec
  subst ea ec
  obtain ⟨b, rfl, hb1, hb2⟩ := hb (by omega)
  obtain ⟨b', off', e2, _, _, hbw, _, _, q2⟩ := (OwnC.sl h).get i hi'
  injection e2 with e2
  injection e2 with e3 e4
  subst e3 e4
  simp only [Nat.zero_add] at q2
  have s0 := World.ownsRow.stored h.1 (i * 3 + 2) (.int .i64 t)
  refine ⟨b, rfl, hb1, hb2, hbw, ?_, q2, ?_, (Outside.refl _ _ _).setCell (p := ⟨b, i * 3 + 2, none⟩) hb1 hb2 _⟩
  · obtain ⟨⟨_, h1⟩, _⟩ := h
    rcases h1 with ⟨h1, _⟩ | ⟨g', cap', cur, e1, _, hg', _⟩
    · cases h1
    · simp only [Value.slice.injEq, Option.some.injEq, Addr.mk.injEq, and_true] at e1
      obtain ⟨rfl, _⟩ := e1
      simp [World.frozen?, hg']
  · have h1 := s0.1
    rw [inss_set_to zs i hi' t] at h1
    refine ⟨by rw [List.length_set]; exact h1, fun g' hg' => h.2 g' hg'⟩

set_option maxRecDepth 100000 in
set_option maxHeartbeats 3200000 in
theorem thread_any (lo hi : Nat) (v : Value) (c : List In3) (w : World) (hx : SlC lo hi w v c) (hhi : hi ≤ w.heap.size) (hc : Code0 c) :
    Calls Tryd.prog 48 #[v] w (RetV fun u w' => ∃ zs, zs = thrC c ∧ OwnC w.heap.size w'.heap.size 33 w' u zs ∧ Below w.heap.size w w') := by
  have hcl := hc.most
  have hcp := hc.pos
  obtain ⟨ca, cc, rfl, _, _⟩ := hx.shape
  have HX := Lib.hid hx
  have HC := Lib.hid hc
  clear hx hc
  go_enter Tryd.func48, Tryd.ntmps48
  go_wp2_with fail
  refine (cloneC_any lo hi _ c w HX.out (by omega)).mono ?_
  rintro e w1 ⟨_, rfl, hb, ho⟩
  obtain ⟨oa, oc, rfl, _, _⟩ := Sl.shape ho.sl
  have hs1 := hb.size
  have HO := Lib.hid ho
  have HB := Lib.hid hb
  have H0 := Lib.hid (ThrS.start c)
  clear ho hb
  go_wp2
  go_loopw [12] (fun i wr => ∃ (k : Nat) (zs : List In3), i = .int .i64 k ∧ k ≤ c.length ∧ Hid (ThrS c zs k) ∧ Hid (OwnC w.heap.size wr.heap.size 33 wr (.slice oa c.length oc) zs) ∧ Hid (Below w.heap.size w wr)) (fun i _ => c.length - (intOf i).toNat)
  case atStart => exact ⟨0, c, rfl, by omega, H0, HO, HB⟩
  case round =>
    obtain ⟨k, zs, rfl, hk, HS, HQ, HBe⟩ := hrel
    clear HO HB H0
    obtain ⟨wo, rfl⟩ : ∃ x_, x_ = wr := ⟨_, rfl⟩
    have hsr := HBe.out.size
    by_cases hlt : k < c.length
    · have i1 : (k : Int) < c.length := by omega
      obtain ⟨b, off, rfl, _, hbh, hbs, q0, q1, q2⟩ := (HX.out.below HBe.out hhi).get k hlt
      have hins := HC.out.ins k hlt
      have hto := fun h => HC.out.to_lt hlt h
      have hxe : insAt c k = c[k] := insAt_get hlt
      rw [hxe] at hins hto
      have HU : Hid (∀ x, x = thrI c c[k] → ThrS c (zs.set k x) (k + 1)) := Lib.hid fun x h => HS.out.set hlt x h
      have HK : Hid (thrI c c[k] = c[k] → ThrS c zs (k + 1)) := Lib.hid fun h => HS.out.keep hlt h
      obtain ⟨hzl, hze⟩ := HS.out.at hlt
      have HZL : Hid (zs.length = c.length) := Lib.hid HS.out.1
      have HZE : Hid (zs[k] = c[k]) := Lib.hid hze
      obtain ⟨x, hx⟩ : ∃ x, x = c[k] := ⟨_, rfl⟩
      rw [← hx] at q0 q1 q2 hins hto HU HK HZE
      clear hx hxe hze HS
      obtain ⟨kd, ar, tt⟩ := x
      simp only at q0 q1 q2 hto
      have hki := insB_kind hins
      simp only at hki
      obtain ⟨wx, hwx⟩ : ∃ wx, wx = wo.alloc (.cells #[.int .i64 kd, .int .i64 ar, .int .i64 tt] 33) := ⟨_, rfl⟩
      obtain ⟨hbx, KX_, hsx⟩ := box_facts3 hwx
      have KX := Lib.hid KX_
      have HWX := Lib.hid hwx
      have HBX := Lib.hid (HBe.out.trans (hbx.mono hsr))
      have HQX := Lib.hid (HQ.out.below hbx (Nat.le_refl _))
      have x0 := KX_.cell 0
      have x1 := KX_.cell 1
      have x2 := KX_.cell 2
      have hgx := KX_.lt
      clear KX_ hbx HQ hwx
      by_cases hgo : kd = 1 ∨ kd = 2
      · have ht := hto hgo
        have ht0 := (insB_to hins hgo).1
        simp only at ht0
        obtain ⟨t0, rfl⟩ : ∃ t0 : Nat, tt = t0 := ⟨tt.toNat, by omega⟩
        rw [Int.toNat_natCast] at ht
        have HT : Hid (∀ r : Int, (∃ b : Nat, folC c t0 = some b ∧ r = b) ∨ (folC c t0 = none ∧ r = (t0 : Int)) → ThrS c (zs.set k ⟨kd, ar, r⟩) (k + 1)) := Lib.hid fun r h => HU.out _ (by
          rcases h with ⟨b, h1, rfl⟩ | ⟨h1, rfl⟩
          · exact (thrI_some (x := ⟨kd, ar, (t0 : Int)⟩) hgo h1).symm
          · exact (thrI_none (x := ⟨kd, ar, (t0 : Int)⟩) h1).symm)
        have HJ0 := Lib.hid (JGo.start c t0)
        have HST : Hid (∀ r : Int, ∃ bo, (oa = some ⟨bo, 0, none⟩) ∧ w.heap.size ≤ bo ∧ bo < wx.heap.size ∧ wx.frozen? ⟨bo, k * 3 + 2, none⟩ = false ∧ wx.cell? ⟨bo, k * 3 + 2, none⟩ = some (.int .i64 (t0 : Int)) ∧ OwnC w.heap.size (wx.setCell ⟨bo, k * 3 + 2, none⟩ (.int .i64 r)).heap.size 33 (wx.setCell ⟨bo, k * 3 + 2, none⟩ (.int .i64 r)) (.slice oa c.length oc) (zs.set k ⟨kd, ar, r⟩) ∧ Below w.heap.size w (wx.setCell ⟨bo, k * 3 + 2, none⟩ (.int .i64 r))) := Lib.hid fun r => by
          obtain ⟨bo, e1, e2, e3, e4, e5, e6, e7, e8⟩ := OwnC.to HQX.out HZL.out.symm k hzl r
          rw [HZE.out] at e6 e7
          exact ⟨bo, e1, e2, e4, e5, e6, Own.wide2 e7 (Nat.le_refl _) (Nat.le_trans (show wo.heap.size ≤ wx.heap.size by omega) e8.size), Below.outside HBX.out e8 (Nat.le_refl _) HBX.out.size⟩
        clear hto hki hins HU HK
        have HXX := Lib.hid (HX.out.below HBX.out hhi)
        have hsx2 := HBX.out.size
        rcases hgo with rfl | rfl
        all_goals
          go_upto_region 5 with (rw [← HWX.out])
          try rw [← HWX.out]
          go_upto_region 8 with fail
          go_loop [6, 7] (fun tv nv => ∃ t n : Nat, tv = .int .i64 t ∧ nv = .int .i64 n ∧ t < c.length ∧ n ≤ c.length + 1 ∧ Hid (JGo c t0 n t)) (fun _ nv => c.length + 2 - (intOf nv).toNat)
          case atStart => exact ⟨t0, 0, rfl, rfl, ht, by omega, HJ0⟩
          case round =>
            obtain ⟨t, n, rfl, rfl, htl, hnl, HJ⟩ := hrel
            clear HJ0
            obtain ⟨b2, off2, e2, _, _, _, r0, r1, r2⟩ := HXX.out.get t htl
            injection e2 with e2
            injection e2 with e3 e4
            subst e3 e4
            have j1 : (t : Int) < c.length := by omega
            have hte : insAt c t = c[t] := insAt_get htl
            have hti := HC.out.ins t htl
            have htt := fun h => HC.out.to_lt htl h
            have HN := Lib.hid (fun h => HJ.out.next (stepJ_yes (c := c) (a := t) h))
            have HD := Lib.hid (fun h => HJ.out.done HC.out ht (stepJ_no (c := c) (a := t) h))
            rw [hte] at hti htt HN HD
            obtain ⟨y, hy⟩ : ∃ y, y = c[t] := ⟨_, rfl⟩
            rw [← hy] at r0 r1 r2 hti htt HN HD
            clear hy hte
            obtain ⟨yk, ya, yt⟩ := y
            simp only at r0 r1 r2 htt HN HD
            by_cases hy2 : yk = 2
            · subst hy2
              have htt' := htt (Or.inr rfl)
              have ht1 := (insB_to hti (Or.inr rfl)).1
              simp only at ht1
              obtain ⟨t', rfl⟩ : ∃ t' : Nat, yt = t' := ⟨yt.toNat, by omega⟩
              rw [Int.toNat_natCast] at htt'
              replace HN := Lib.hid (HN.out rfl)
              simp only [Int.toNat_natCast] at HN
              clear htt hti HD
              by_cases hn : c.length < n
              · have HR := Lib.hid (HT.out (t0 : Int) (.inr ⟨HJ.out.over HC.out ht hn, rfl⟩))
                obtain ⟨bo, rfl, s1, s2, s3, s4, HS5, HS6⟩ := HST.out (t0 : Int)
                have HF := Lib.hid (And.intro HS5 HS6)
                clear HN HJ HST HT HS5 HS6
                go_wp2
                go_roundw
                case rel => exact ⟨k + 1, _, by go_num, by omega, HR, Lib.hid HF.out.1, Lib.hid HF.out.2⟩
                case measure => simp [intOf]; omega
              · have hnd : decide ((c.length : Int) < (n : Int)) = false := decide_eq_false (by omega)
                clear HJ
                go_wp2
                go_round
                case rel => exact ⟨t', n + 1, rfl, by go_num, htt', by omega, HN⟩
                case measure => simp [intOf]; omega
            · have hyd : (yk == 2) = false := by simpa using hy2
              have HR := Lib.hid (HT.out (t : Int) (.inl ⟨t, HD.out hy2, rfl⟩))
              obtain ⟨bo, rfl, s1, s2, s3, s4, HS5, HS6⟩ := HST.out (t : Int)
              have HF := Lib.hid (And.intro HS5 HS6)
              clear HN HJ HST HT HS5 HS6 HD htt hti hy2
              go_wp2
              go_roundw
              case rel => exact ⟨k + 1, _, by go_num, by omega, HR, Lib.hid HF.out.1, Lib.hid HF.out.2⟩
              case measure => simp [intOf]; omega
      · have h1 : (kd != 1) = true := by simp; omega
        have h2 : (kd != 2) = true := by simp; omega
        have HR := Lib.hid (HK.out (thrI_other (x := ⟨kd, ar, tt⟩) hgo))
        clear hto hki hins HU HK hgo
        go_upto_region 5 with (rw [← HWX.out])
        try rw [← HWX.out]
        go_wp2
        go_roundw
        case rel => exact ⟨k + 1, zs, by go_num, by omega, HR, Lib.hid (Own.wide2 HQX.out (Nat.le_refl _) (by omega)), HBX⟩
        case measure => simp [intOf]; omega
    · obtain rfl : k = c.length := by omega
      have HE := Lib.hid (HS.out.done (Nat.le_refl _))
      go_wp2
      go_ret
      exact RetV.mk _ rfl ⟨zs, HE.out, HQ.out, HBe.out⟩
end Go.Proofs.YtoondakdjhhehaaDoor
