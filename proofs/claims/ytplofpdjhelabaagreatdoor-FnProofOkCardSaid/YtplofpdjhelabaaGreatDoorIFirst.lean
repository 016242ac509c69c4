/-
  Texts of walks and plain lemmas for this seat; no condition.
-/
import Derived.Test.YtplofpdjhelabaaGreatDoorGU
import Derived.Deep.RegionHeldLaw
import Derived.Deep.RegionHeld3
import Derived.Deep.DeepCutAuto
import Derived.Deep.DrawnRows
namespace Go.Proofs.YtplofpdjhelabaaGreatDoor
open Go.RowKit
set_option linter.unusedVariables false

/-- What firstTrace tells. -/
def FtR (a b : Au) (w : World) (r : Value) (w' : World) : Prop := ∃ v ok, r = .tuple #[v, .bool ok] ∧ (ok = true → ∃ (p : Nat × Nat) (k : Nat), RchP a b p ∧ k < 4 ∧ (apartP a b p).testBit k = true) ∧ Below w.heap.size w w'

set_option maxRecDepth 100000 in
set_option maxHeartbeats 12800000 in
theorem firstTrace_any (lo hi : Nat) (v1 v2 v3 v4 : Value) (a b : Au) (w : World) (h : TgS lo hi w v1 v2 v3 v4 a b) (hh : hi ≤ w.heap.size) (ha : AuOk a) (hb : AuOk b) :
    Calls Tryz.prog 77 #[.agg #[.int .i64 1, .int .i64 1], .func (.func 75) #[.agg #[v1, v2, v3, v4]] #[], .func (.func 74) #[.agg #[v1, v2, v3, v4]] #[]] w (RetV (FtR a b w)) := by
  obtain ⟨w0, hw0⟩ : ∃ w0, w0 = w.alloc (.cells #[.int .i64 1, .int .i64 1] 112) := ⟨_, rfl⟩
  obtain ⟨w1, hw1⟩ : ∃ w1, w1 = w0.alloc (.cells #[.int .i64 1, .int .i64 1, .slice none 0 0] 154) := ⟨_, rfl⟩
  obtain ⟨w2, hw2⟩ : ∃ w2, w2 = w1.alloc (.map #[] 0) := ⟨_, rfl⟩
  have b0 : Below w.heap.size w w0 := by rw [hw0]; exact al_below _ _
  have b1 : Below w0.heap.size w0 w1 := by rw [hw1]; exact al_below _ _
  have b2 : Below w1.heap.size w1 w2 := by rw [hw2]; exact al_below _ _
  have k0 : Blk w.heap.size (.cells #[.int .i64 1, .int .i64 1] 112) w0 := by rw [hw0]; exact Blk.new w _
  have s0 : w0.heap.size = w.heap.size + 1 := by rw [hw0]; simp
  have s1 : w1.heap.size = w.heap.size + 2 := by rw [hw1]; simp; omega
  have s2 : w2.heap.size = w.heap.size + 3 := by rw [hw2]; simp; omega
  have k1 : Own 3 (w.heap.size + 1) (w.heap.size + 2) 154 w1 (.slice (some ⟨w.heap.size + 1, 0, none⟩) 1 1) 1 (wys [((1, 1), .slice none 0 0)]) := by
    have := Own.lit 3 154 w0 (wys [((1, 1), .slice none 0 0)]) 1 (by omega) rfl
    rw [s0] at this
    rw [hw1]
    exact this
  have k2 : PM w2 (w.heap.size + 2) [] := by rw [← s1, hw2]; exact PM.made w1
  obtain ⟨w3, hr3, hp3, hg3⟩ := k2.put (p := (1, 1)) ⟨by decide, by decide⟩ (by simp)
  have hO3 := PM.grown hg3
  have s3 := hg3.size
  have HR3 := Lib.hid hr3
  have HI : Hid (LvI a b w w3 (.slice (some ⟨w.heap.size + 1, 0, none⟩) 1 1) (2 * 0) [((1, 1), .slice none 0 0)] [(1, 1)]) := Lib.hid ⟨⟨((k1.below b2 (by omega)).outside hO3 (by omega)).wide2 (by omega) (by omega), fun x hx => by
      simp only [List.mem_singleton] at hx
      subst hx
      exact ⟨[], Own.nil _ _ _ _ _, by simp⟩⟩, hp3, Below.outside ((b0.trans (b1.mono (by omega))).trans (b2.mono (by omega))) hO3 (by omega) (by omega), ⟨by simp, by simp, fun x hx => by
      simp only [List.mem_singleton] at hx
      subst hx
      exact ⟨RchP.start a b, by decide, by decide⟩, by simp⟩⟩
  have HT := Lib.hid h
  have HAO := Lib.hid ha
  have HBO := Lib.hid hb
  have HK := Lib.hid (show w2.cell? ⟨w.heap.size, 0, none⟩ = some (.int .i64 1) ∧ w2.cell? ⟨w.heap.size, 1, none⟩ = some (.int .i64 1) from by
    have hk := (k0.below b1 (by omega)).below b2 (by omega)
    exact ⟨hk.cell 0, hk.cell 1⟩)
  clear h ha hb b0 b1 b2 k0 k1 k2 hp3 hg3 hO3 hr3
  go_enter Tryz.func77, Tryz.ntmps77
  go_upto_region 2 with fail
  simp only [← hw0, ← hw1]
  have hmk : (Instr.makeMap 110 none).run Tryz.prog w1 = .ok (.map (some (w.heap.size + 2))) w2 := by rw [← s1, hw2]; rfl
  have k2a := HK.out.1
  have k2b := HK.out.2
  have hr3 : (Instr.mapUpdate 110 (.map (some (w.heap.size + 2))) (.agg #[.int .i64 1, .int .i64 1]) (.bool true)).run Tryz.prog w2 = .ok () w3 := HR3.out
  clear hw0 hw1 hw2 HR3
  go_wp2
  clear hmk k2a k2b hr3 HK
  go_loopw [8, 10] (fun lv i wr => ∃ (n : Nat) (ws : List ((Nat × Nat) × Value)) (qs : List (Nat × Nat)), n ≤ 21 ∧ i = .int .i64 n ∧ Hid (LvI a b w wr lv (2 * n) ws qs)) (fun _ i _ => 21 - (intOf i).toNat)
  case atStart => exact ⟨0, _, _, by omega, rfl, HI⟩
  case round =>
    rename World => wr
    clear HI
    obtain ⟨n, ws, qs, hn, rfl, HI⟩ := hrel
    obtain ⟨la, lc, rfl⟩ := Own.shape HI.out.ways.own
    obtain ⟨hw1, hq1⟩ := HI.out.seen.few
    by_cases hlt : n < 21
    · have hdn : decide ((n : Int) ≤ 20) = true := by simp; omega
      go_wp2
      go_loopw [33] (fun i wx => ∃ k : Nat, k ≤ ws.length ∧ i = .int .i64 k ∧ Hid (Below wr.heap.size wr wx)) (fun i _ => ws.length - (intOf i).toNat)
      case atStart => exact ⟨0, by omega, rfl, Lib.hid (Below.refl _ _)⟩
      case round =>
        rename World => wx
        obtain ⟨k, hk, rfl, HX⟩ := hrel
        by_cases hltk : k < ws.length
        · obtain ⟨g4, rfl, _, _, hg4, c40, c41, c42⟩ := (HI.out.ways.below HX.out (Nat.le_refl _)).get k hltk
          have HRW := Lib.hid (HI.out.seen.rch _ (List.getElem_mem hltk))
          obtain ⟨t, ht1, ht2⟩ := HI.out.ways.tr _ (List.getElem_mem hltk)
          have HTR := Lib.hid (And.intro ht1 ht2)
          clear ht1 ht2
          generalize ws[k] = q at c40 c41 c42 HRW HTR
          obtain ⟨⟨x, y⟩, s⟩ := q
          simp only at c40 c41 c42 HRW HTR
          obtain ⟨sa, sc, rfl⟩ := Own.shape HTR.out.1
          have hx : x < 1048576 := by have := HRW.out.2.1; omega
          have hy : y < 1048576 := by have := HRW.out.2.2; omega
          have ht1 : t.length ≤ 42 := by have := HTR.out.2; omega
          obtain ⟨w5, hw5⟩ : ∃ w5, w5 = wx.alloc (.cells #[.int .i64 (x : Nat), .int .i64 (y : Nat), .slice sa t.length sc] 154) := ⟨_, rfl⟩
          obtain ⟨hb5, KP_, hs5⟩ := box_facts2 hw5
          have hzr := HI.out.below.size
          have hzx := HX.out.size
          have HT5 := Lib.hid (((HT.out.below HI.out.below hh).below HX.out (by omega)).below hb5 (by omega))
          have HB5 := Lib.hid (HX.out.trans (hb5.mono hzx))
          have KP := Lib.hid KP_
          have c0 := KP.out.cell 0
          have c1 := KP.out.cell 1
          rw [hw5] at c0 c1
          obtain ⟨q, hq⟩ : ∃ q, q = apartP a b (x, y) := ⟨_, rfl⟩
          have HQP := Lib.hid hq
          have hq16 : q < 16 := by
            rw [hq]
            exact Nat.xor_lt_two_pow (n := 4) (HAO.out.endsLt x) (HBO.out.endsLt y)
          clear hq hb5 KP_
          go_wp2_with fail
          simp only [← hw5]
          refine (apart_any _ _ _ _ _ _ _ _ x y w5 HT5.out (by omega) HAO.out HBO.out hx hy).mono ?_
          rintro e8 w8 ⟨rfl, hb8⟩
          rw [← HQP.out]
          have hz8 := hb8.size
          have HB8 := Lib.hid (HB5.out.trans (hb8.mono (by omega)))
          have KP8 := Lib.hid (KP.out.below hb8 (by omega))
          clear hw5 c0 c1 c40 c41 c42 hb8 HT5 KP
          go_wp2
          go_loopw [41] (fun i wy => ∃ α : Nat, α ≤ 4 ∧ i = .int .i64 α ∧ Hid (Below w8.heap.size w8 wy)) (fun i _ => 4 - (intOf i).toNat)
          case atStart => exact ⟨0, by omega, rfl, Lib.hid (Below.refl _ _)⟩
          case round =>
            rename World => wy
            obtain ⟨α, hα, rfl, HY⟩ := hrel
            have hzy := HY.out.size
            by_cases hlta : α < 4
            · have hda : decide ((α : Int) < 4) = true := by simp; omega
              go_wp2_with fail
              refine (holds_any q α hq16 hlta wy).mono ?_
              rintro e9 _ ⟨rfl, rfl⟩
              rw [hb_bit]
              cases hbit : q.testBit α
              · go_wp2
                go_roundw
                case rel => exact ⟨α + 1, by omega, by go_num, HY⟩
                case measure => simp [intOf]; omega
              · have kp := KP8.out.below HY.out KP8.out.lt
                have c2 := kp.cell 2
                have HBW := Lib.hid (HB8.out.trans (HY.out.mono (by omega)))
                have HRET := Lib.hid (show ∃ (p : Nat × Nat) (k : Nat), RchP a b p ∧ k < 4 ∧ (apartP a b p).testBit k = true from ⟨(x, y), α, HRW.out.1, hlta, by rw [← HQP.out]; exact hbit⟩)
                clear hbit kp
                go_wp2_with fail
                refine (cloneI_any _ _ _ t wy (HTR.out.1.sl.below HBW.out (Nat.le_refl _)) (by omega)).mono ?_
                rintro e10 w10 ⟨v10, rfl, hb10, ho10⟩
                have hz10 := hb10.size
                have HBX := Lib.hid (HBW.out.trans (hb10.mono (by omega)))
                have HO10 := Lib.hid ho10
                obtain ⟨ya, yc, rfl⟩ := Own.shape ho10
                clear hb10 ho10 c2
                go_wp2_with (at_builtin; go_loud (refine wpList_app_lit w10 rfl _ _ 23 rfl 3 (.int .i64 0) 1 8 Tryz.underlying23 info_int rfl (by decide) (by decide) rfl HO10.out 1 (ints [(α : Int)]) rfl rfl (ints_one _) rfl ?c1 ?c2 ?_))
                case c1 => omega
                case c2 => omega
                intro v11 w11 ho11 hout11 _
                obtain ⟨yb, ybc, rfl⟩ := Own.shape ho11
                have HBF := Lib.hid (HI.out.below.trans ((Below.outside HBX.out hout11 (by omega) (by omega)).mono hzr))
                clear ho11 hout11
                go_wp2
                refine bodyPost_ret (v := .tuple #[.slice yb (t.length + 1) ybc, .bool true]) (by simp [results, Tryz.results77, go_sem]) rfl ?_
                exact RetV.mk _ rfl ⟨_, _, rfl, fun _ => HRET.out, HBF.out⟩
            · obtain rfl : α = 4 := by omega
              have HXF := Lib.hid (HB8.out.trans (HY.out.mono (by omega)))
              clear HX
              go_wp2
              go_roundw
              case rel => exact ⟨k + 1, by omega, by go_num, HXF⟩
              case measure => simp [intOf]; omega
        · obtain rfl : k = ws.length := by omega
          have HIS := Lib.hid (HI.out.go HX.out)
          obtain ⟨wS, hwS⟩ : ∃ wS, wS = wx := ⟨_, rfl⟩
          rw [← hwS] at HIS ⊢
          clear hwS HI HX
          go_wp2
          go_loopw [15, 57] (fun v i wx => ∃ (k : Nat) (fs : List ((Nat × Nat) × Value)) (qs : List (Nat × Nat)), k ≤ ws.length ∧ i = .int .i64 k ∧ Hid (FuI a b (w.heap.size + 2) wS wx v (2 * n + 2) fs qs)) (fun _ i _ => ws.length - (intOf i).toNat)
          case atStart => exact ⟨0, [], qs, by omega, rfl, Lib.hid ⟨WyL.nil _ _ _ _, HIS.out.map, Outside.refl _ _ _, HIS.out.seen.none⟩⟩
          case round =>
            rename World => wx
            obtain ⟨k, fs, qs2, hk, rfl, HF⟩ := hrel
            have hzx := HF.out.out.size
            obtain ⟨fa, fc, rfl⟩ := Own.shape HF.out.ways.own
            by_cases hltk : k < ws.length
            · have HLW := Lib.hid (HF.out.seek HIS.out.ways HIS.out.map)
              obtain ⟨g4, rfl, _, _, hg4, c40, c41, c42⟩ := HLW.out.get k hltk
              have HRW := Lib.hid (HIS.out.seen.rch _ (List.getElem_mem hltk))
              obtain ⟨t, ht1, ht2⟩ := HIS.out.ways.tr _ (List.getElem_mem hltk)
              have HTR := Lib.hid (And.intro ht1 ht2)
              clear ht1 ht2
              generalize ws[k] = q at c40 c41 c42 HRW HTR
              obtain ⟨⟨x, y⟩, s⟩ := q
              simp only at c40 c41 c42 HRW HTR
              obtain ⟨sa, sc, rfl⟩ := Own.shape HTR.out.1
              have hx : x < 1048576 := by have := HRW.out.2.1; omega
              have hy : y < 1048576 := by have := HRW.out.2.2; omega
              have ht1 : t.length ≤ 42 := by have := HTR.out.2; omega
              have HW5 := Lib.hid (HF.out.beside #[.int .i64 (x : Nat), .int .i64 (y : Nat), .slice sa t.length sc])
              obtain ⟨w5, hw5⟩ : ∃ w5, w5 = wx.alloc (.cells #[.int .i64 (x : Nat), .int .i64 (y : Nat), .slice sa t.length sc] 154) := ⟨_, rfl⟩
              have hs5 : wx.heap.size + 1 ≤ w5.heap.size := by rw [hw5]; simp
              rw [← hw5] at HW5
              go_wp2
              simp only [← hw5]
              clear hw5 c40 c41 c42 HF
              go_loopw [15, 61] (fun v i wy => ∃ (α : Nat) (fs : List ((Nat × Nat) × Value)) (qs : List (Nat × Nat)), α ≤ 4 ∧ i = .int .i64 α ∧ Hid (FwI a b (w.heap.size + 2) wS wx.heap.size #[.int .i64 (x : Nat), .int .i64 (y : Nat), .slice sa t.length sc] wy v (2 * n + 2) fs qs)) (fun _ i _ => 4 - (intOf i).toNat)
              case atStart => exact ⟨0, _, _, by omega, rfl, HW5⟩
              case round =>
                rename World => wy
                clear HW5
                obtain ⟨α, fs, qs3, hα, rfl, HF⟩ := hrel
                obtain ⟨fa, fc, rfl⟩ := Own.shape HF.out.fu.ways.own
                by_cases hlta : α < 4
                · have hda : decide ((α : Int) < 4) = true := by simp; omega
                  go_wp2
                  go_loopw [15, 19] (fun v i wz => ∃ (j : Nat) (fs : List ((Nat × Nat) × Value)) (qs : List (Nat × Nat)), j ≤ 3 ∧ i = .int .i64 (16 + (j : Int)) ∧ Hid (FwI a b (w.heap.size + 2) wS wx.heap.size #[.int .i64 (x : Nat), .int .i64 (y : Nat), .slice sa t.length sc] wz v (2 * n + 2) fs qs)) (fun _ i _ => 19 - (intOf i).toNat)
                  case atStart => exact ⟨0, _, _, by omega, rfl, HF⟩
                  case round =>
                    rename World => wz
                    clear HF
                    obtain ⟨j, fs, qs4, hj, rfl, HF⟩ := hrel
                    obtain ⟨fa, fc, rfl⟩ := Own.shape HF.out.fu.ways.own
                    by_cases hltj : j < 3
                    · have hdj : decide ((16 : Int) + (j : Int) ≤ 18) = true := by simp; omega
                      obtain ⟨m, hm⟩ : ∃ m, m = 3 * α + j := ⟨_, rfl⟩
                      have hm12 : m < 12 := by omega
                      have HM := Lib.hid hm
                      clear hm
                      have hzz := HF.out.fu.out.size
                      have HTZ := Lib.hid ((HT.out.below HIS.out.below hh).outside HF.out.fu.out (.inl (by omega)))
                      have HNX : Hid (∀ w' : World, Below wz.heap.size wz w' → Calls Tryz.prog 75 #[.agg #[v1, v2, v3, v4], .agg #[.int .i64 (x : Nat), .int .i64 (y : Nat)], .int .i64 (m : Nat)] w' fun e w'' => e = .returned (.agg #[.int .i64 ((stepU a x m : Nat) : Int), .int .i64 ((stepU b y m : Nat) : Int)]) ∧ Below w'.heap.size w' w'') := Lib.hid fun w' hb' => next_any lo hi v1 v2 v3 v4 a b x y m w' (HTZ.out.below hb' (by have := HIS.out.below.size; omega)) (by have := hb'.size; have := HIS.out.below.size; omega) HAO.out HBO.out hx hy hm12
                      have HMV : Hid (∀ w' : World, Calls Tryz.prog 110 #[.int .i64 α, .int .i64 (16 + (j : Int))] w' fun e w'' => e = .returned (.int .i64 (m : Nat)) ∧ w' = w'') := Lib.hid fun w' => (move_any α (16 + (j : Int)) w' hlta (by omega) (by omega)).mono (by
                        rintro e w'' ⟨rfl, h⟩
                        refine ⟨?_, h⟩
                        have hm := HM.out
                        rw [show 3 * (α : Int) + (16 + (j : Int)) - 16 = (m : Nat) by omega])
                      have hsm1 : stepU a x m < 1024 := HAO.out.step x hm12
                      have hsm2 : stepU b y m < 1024 := HBO.out.step y hm12
                      have hkl := HF.out.blk.lt
                      go_upto_region 27 with fail
                      go_cut [20] (fun pv wv => GotP wz (.int .i64 ((stepU a x m : Nat) : Int)) (.int .i64 ((stepU b y m : Nat) : Int)) pv wv)
                      case first =>
                        have hbd : Below wz.heap.size wz wz.drew := Below.drew (Below.refl _ _)
                        have hba : Below wz.heap.size wz (wz.alloc (.cells #[.int .i64 0, .int .i64 0] 112)).drew := Below.drew (al_below wz _)
                        have hmm : wz.drew.heap.size = wz.heap.size := rfl
                        have hma : (wz.alloc (.cells #[.int .i64 0, .int .i64 0] 112)).drew.heap.size = wz.heap.size + 1 := alloc_size _ _
                        have t0 := HF.out.blk.drew.cell 0
                        have t1 := HF.out.blk.drew.cell 1
                        have u0 : (wz.alloc (.cells #[.int .i64 0, .int .i64 0] 112)).drew.cell? ⟨wx.heap.size, 0, none⟩ = _ := HF.out.blk.al.cell 0
                        have u1 : (wz.alloc (.cells #[.int .i64 0, .int .i64 0] 112)).drew.cell? ⟨wx.heap.size, 1, none⟩ = _ := HF.out.blk.al.cell 1
                        have HA := Lib.hid hba
                        clear hba
                        go_region_law (first
                          | (go_simp; go_at_call 110; refine (HMV.out _).mono ?_; rintro e0 _ ⟨rfl, rfl⟩)
                          | (go_simp; go_at_call 75; refine (HNX.out wz.drew hbd).mono ?_; rintro e1 w6 ⟨rfl, hb1_⟩; (have hb1 : Below wz.heap.size wz w6 := hbd.trans (hb1_.mono (Nat.le_refl _))); (have hz1 := hb1.size); (have HB1 := Lib.hid hb1); (have kz := Blk.new w6 (.cells #[.int .i64 0, .int .i64 0] 112)); (have z0 := kz.cell 0); (have z1 := kz.cell 1); (have z2 := kz.free 0); (have z3 := kz.free 1); clear hb1_ hb1 kz)
                          | (go_simp; go_at_call 75; refine (HNX.out ((wz.alloc (.cells #[.int .i64 0, .int .i64 0] 112)).drew) HA.out).mono ?_; rintro e1 w6 ⟨rfl, hb1_⟩; (have hz1 := hb1_.size); (have kz : Blk wz.heap.size (.cells #[.int .i64 0, .int .i64 0] 112) w6 := (Blk.new wz (.cells #[.int .i64 0, .int .i64 0] 112)).drew.below hb1_ (by rw [hma]; exact Nat.lt_succ_self _)); (have z0 := kz.cell 0); (have z1 := kz.cell 1); (have z2 := kz.free 0); (have z3 := kz.free 1); (have HB2 := Lib.hid (And.intro kz (HA.out.trans (hb1_.mono (by omega))))); clear hb1_ kz))
                        all_goals (
                          go_wp2_with fail
                          go_meet
                          first
                            | exact GotP.a HB1.out
                            | exact GotP.b HB2.out.1 HB2.out.2)
                      case rest =>
                        rename World => wc
                        obtain ⟨gp, rfl, HG⟩ := hcut
                        have HFC := Lib.hid (HF.out.go HG.out.2.2)
                        have hfit : FitP (stepU a x m, stepU b y m) := ⟨by show stepU a x m < 1048576; omega, by show stepU b y m < 1048576; omega⟩
                        have hlk : (Instr.lookup 110 (.map (some (w.heap.size + 2))) (.agg #[.int .i64 ((stepU a x m : Nat) : Int), .int .i64 ((stepU b y m : Nat) : Int)]) false).run Tryz.prog wc = .ok (.bool (decide ((stepU a x m, stepU b y m) ∈ qs4))) wc := HFC.out.fu.map.look hfit
                        have kp := HG.out.2.1
                        have c0 := kp.cell 0
                        have c1 := kp.cell 1
                        have hgp2 := HG.out.1
                        have hgz := HG.out.2.2.size
                        obtain ⟨hf4, hq4⟩ := HFC.out.fu.seen.few
                        cases hmem : decide ((stepU a x m, stepU b y m) ∈ qs4)
                        · obtain ⟨wq, hrq_, hpq, hgq⟩ := HFC.out.fu.map.put hfit (by omega)
                          have hrq : (Instr.mapUpdate 110 (.map (some (w.heap.size + 2))) (.agg #[.int .i64 ((stepU a x m : Nat) : Int), .int .i64 ((stepU b y m : Nat) : Int)]) (.bool true)).run Tryz.prog wc = .ok () wq := hrq_
                          have hNM : (stepU a x m, stepU b y m) ∉ qs4 := by simpa using hmem
                          have HNM := Lib.hid hNM
                          have HPQ := Lib.hid (And.intro hpq hgq)
                          have hOq := PM.grown hgq
                          have hsq := hgq.size
                          have KQ := Lib.hid (kp.past HFC.out.fu.map hOq)
                          have K17 := Lib.hid (HFC.out.blk.past HFC.out.fu.map hOq)
                          have HTQ := Lib.hid (own_past HTR.out.1 HIS.out.map (HFC.out.fu.out.trans hOq))
                          have HFQ := Lib.hid (HFC.out.fu.turn hgq)
                          have hown17 := HFC.out.ne
                          have HNE := Lib.hid hown17
                          have hfz : ∀ u, (Value.slice fa fs.length fc).ownBlock = some u → u < wz.heap.size := fun u hu => (HF.out.fu.ways.own.lt u hu).2
                          have HFZ := Lib.hid hfz
                          have hSS := HIS.out.below.size
                          have hkp := KQ.out.lt
                          have hk17 := K17.out.lt
                          have HRN := Lib.hid (HRW.out.1.next hm12)
                          have htn := HTR.out.2
                          rw [hmem] at hlk
                          clear hmem hNM hpq hgq hrq_ kp HG HF hOq hown17 hfz
                          have HS : Hid (∀ w' : World, Below wq.heap.size wq w' → w'.cell? ⟨gp, 0, none⟩ = some (.int .i64 ((stepU a x m : Nat) : Int)) ∧ w'.cell? ⟨gp, 1, none⟩ = some (.int .i64 ((stepU b y m : Nat) : Int)) ∧ w'.cell? ⟨wx.heap.size, 2, none⟩ = some (.slice sa t.length sc)) := Lib.hid fun w' hb' => ⟨(KQ.out.below hb' KQ.out.lt).cell 0, (KQ.out.below hb' KQ.out.lt).cell 1, (K17.out.below hb' K17.out.lt).cell 2⟩
                          obtain ⟨d0, d1, d2⟩ := HS.out wq (Below.refl _ _)
                          obtain ⟨e0, e1, e2⟩ := HS.out wq.drew (Below.drew (Below.refl _ _))
                          have hqd : wq.drew.heap.size = wq.heap.size := rfl
                          have hql : (wq.alloc (.cells #[.int .i64 (α : Nat), .int .i64 (16 + (j : Int))] 3)).drew.heap.size = wq.heap.size + 1 := alloc_size _ _
                          obtain ⟨g0, g1, g2⟩ := HS.out (wq.alloc (.cells #[.int .i64 (α : Nat), .int .i64 (16 + (j : Int))] 3)).drew (Below.drew (al_below wq _))
                          have HTQD := Lib.hid (HTQ.out.sl.below (Below.drew (Below.refl wq.heap.size wq)) (by omega))
                          have HTQL := Lib.hid (HTQ.out.sl.below (Below.drew (al_below wq (.cells #[.int .i64 (α : Nat), .int .i64 (16 + (j : Int))] 3))) (by omega))
                          have HLQ : Hid (Sl 1 wq.heap.size (wq.heap.size + 1) (wq.alloc (.cells #[.int .i64 (α : Nat), .int .i64 (16 + (j : Int))] 3)).drew (.slice (some ⟨wq.heap.size, 0, none⟩) 2 2) 2 [.int .i64 (α : Nat), .int .i64 (16 + (j : Int))]) := Lib.hid (Sl.below (Own.lit 1 3 wq [.int .i64 (α : Nat), .int .i64 (16 + (j : Int))] 2 (by omega) rfl).sl (Below.drew (Below.refl (wq.heap.size + 1) _)) (Nat.le_refl _))
                          have HS12 : Hid (∀ wA wB : World, Below wq.heap.size wq wA → wA.grownBy wB (Value.slice fa fs.length fc).ownBlock → wB.cell? ⟨gp, 0, none⟩ = some (.int .i64 ((stepU a x m : Nat) : Int)) ∧ wB.cell? ⟨gp, 1, none⟩ = some (.int .i64 ((stepU b y m : Nat) : Int)) ∧ wB.cell? ⟨wx.heap.size, 2, none⟩ = some (.slice sa t.length sc)) := Lib.hid fun wA wB hA hB => by
                            obtain ⟨r0, r1, r2⟩ := HS.out wA hA
                            have hAz := hA.size
                            have n1 : some gp ≠ (Value.slice fa fs.length fc).ownBlock := fun e => by have := HFZ.out gp e.symm; omega
                            have n2 : some wx.heap.size ≠ (Value.slice fa fs.length fc).ownBlock := fun e => HNE.out e.symm
                            exact ⟨(hB.cell_far ⟨gp, 0, none⟩ (by show gp < _; omega) n1).trans r0, (hB.cell_far ⟨gp, 1, none⟩ (by show gp < _; omega) n1).trans r1, (hB.cell_far ⟨wx.heap.size, 2, none⟩ (by show wx.heap.size < _; omega) n2).trans r2⟩
                          go_upto_region 30 with fail
                          go_region_held3 (fun w' => w'.cell? ⟨gp, 0, none⟩ = some (.int .i64 ((stepU a x m : Nat) : Int)) ∧ w'.cell? ⟨gp, 1, none⟩ = some (.int .i64 ((stepU b y m : Nat) : Int)) ∧ w'.cell? ⟨wx.heap.size, 2, none⟩ = some (.slice sa t.length sc)) (first | with_reducible assumption | go_keep) (first
                            | (go_at_call 59; refine (cloneI_any _ _ _ t wq.drew HTQD.out (by omega)).mono ?_; rintro e10 w10 ⟨v10, rfl, hb10_, ho10⟩; (have hz10 := hb10_.size); (have HB10 := Lib.hid ((Below.drew (Below.refl wq.heap.size wq)).trans (hb10_.mono (Nat.le_refl _)))); obtain ⟨h0, h1, h2⟩ := HS.out w10 HB10.out; obtain ⟨i0, i1, i2⟩ := HS.out (w10.alloc (.cells #[.int .i64 (α : Nat), .int .i64 (16 + (j : Int))] 3)) (HB10.out.trans ((al_below w10 _).mono hz10)); (have HOA := Lib.hid (ho10.below (al_below w10 (.cells #[.int .i64 (α : Nat), .int .i64 (16 + (j : Int))] 3)) (Nat.le_refl _))); (have LA : Hid (Sl 1 w10.heap.size (w10.heap.size + 1) (w10.alloc (.cells #[.int .i64 (α : Nat), .int .i64 (16 + (j : Int))] 3)) (.slice (some ⟨w10.heap.size, 0, none⟩) 2 2) 2 [.int .i64 (α : Nat), .int .i64 (16 + (j : Int))]) := Lib.hid (Own.lit 1 3 w10 [.int .i64 (α : Nat), .int .i64 (16 + (j : Int))] 2 (by omega) rfl).sl); obtain ⟨ya, yc, rfl⟩ := Own.shape ho10; clear hb10_ ho10)
                            | (go_at_call 59; refine (cloneI_any _ _ _ t ((wq.alloc (.cells #[.int .i64 (α : Nat), .int .i64 (16 + (j : Int))] 3)).drew) HTQL.out (by omega)).mono ?_; rintro e10 w10 ⟨v10, rfl, hb10_, ho10⟩; (have hz10 := hb10_.size); (have HB10 := Lib.hid ((Below.drew (al_below wq (.cells #[.int .i64 (α : Nat), .int .i64 (16 + (j : Int))] 3))).trans (hb10_.mono (by rw [hql]; exact Nat.le_succ _)))); obtain ⟨h0, h1, h2⟩ := HS.out w10 HB10.out; (have HOB := Lib.hid ho10); (have LB : Hid (Sl 1 wq.heap.size (wq.heap.size + 1) w10 (.slice (some ⟨wq.heap.size, 0, none⟩) 2 2) 2 [.int .i64 (α : Nat), .int .i64 (16 + (j : Int))]) := Lib.hid (HLQ.out.below hb10_ (by rw [hql]; exact Nat.le_refl _))); obtain ⟨ya, yc, rfl⟩ := Own.shape ho10; clear hb10_ ho10)
                            | (refine step_app_at (by rfl) _ _ 23 (by rfl) 3 (.int .i64 0) 1 8 Tryz.underlying23 info_int (by rfl) (by decide) (by decide) (by rfl) HOA.out (by rfl) LA.out (by intro u hu; simp only [List.mem_cons, List.not_mem_nil, or_false] at hu; rcases hu with rfl | rfl <;> rfl) (by omega) (by omega) (by simp only [alloc_size]; omega) ?_; intro v11 w11 ho11 hg11 hl11; (have HB11 := Lib.hid (Below.outside (HB10.out.trans ((al_below w10 (.cells #[.int .i64 (α : Nat), .int .i64 (16 + (j : Int))] 3)).mono (by omega))) (grown_outside hg11 HOA.out.lt) (by omega) (by simp only [alloc_size]; omega))); (have HOT := Lib.hid (OwnI.len (xs := t ++ [(α : Int), 16 + (j : Int)]) (by rw [ints_append]; exact ho11) (by simp))); obtain ⟨yb, ybc, rfl⟩ := Own.shape ho11; obtain ⟨k0, k1, k2⟩ := HS.out w11 HB11.out; obtain ⟨l0, l1, l2⟩ := HS.out (w11.alloc (.cells #[.int .i64 ((stepU a x m : Nat) : Int), .int .i64 ((stepU b y m : Nat) : Int), .slice yb (t.length + 2) ybc] 154)) (HB11.out.trans ((al_below w11 _).mono HB11.out.size)); (have hz11 := HB11.out.size); (have L11 : Hid (Sl 3 w11.heap.size (w11.heap.size + 1) (w11.alloc (.cells #[.int .i64 ((stepU a x m : Nat) : Int), .int .i64 ((stepU b y m : Nat) : Int), .slice yb (t.length + 2) ybc] 154)) (.slice (some ⟨w11.heap.size, 0, none⟩) 1 1) 1 [.int .i64 ((stepU a x m : Nat) : Int), .int .i64 ((stepU b y m : Nat) : Int), .slice yb (t.length + 2) ybc]) := Lib.hid (Own.lit 3 154 w11 [.int .i64 ((stepU a x m : Nat) : Int), .int .i64 ((stepU b y m : Nat) : Int), .slice yb (t.length + 2) ybc] 1 (by omega) rfl).sl); (have HE11 := Lib.hid ((HFQ.out.below HB11.out (Nat.le_refl _)).own.below (al_below w11 (.cells #[.int .i64 ((stepU a x m : Nat) : Int), .int .i64 ((stepU b y m : Nat) : Int), .slice yb (t.length + 2) ybc] 154)) (by omega))); clear ho11 hg11 hl11)
                            | (refine step_app_at (by rfl) _ _ 23 (by rfl) 3 (.int .i64 0) 1 8 Tryz.underlying23 info_int (by rfl) (by decide) (by decide) (by rfl) HOB.out (by rfl) LB.out (by intro u hu; simp only [List.mem_cons, List.not_mem_nil, or_false] at hu; rcases hu with rfl | rfl <;> rfl) (by omega) (by omega) (by omega) ?_; intro v11 w11 ho11 hg11 hl11; (have HB11 := Lib.hid (Below.outside HB10.out (grown_outside hg11 HOB.out.lt) (by omega) (by omega))); (have HOT := Lib.hid (OwnI.len (xs := t ++ [(α : Int), 16 + (j : Int)]) (by rw [ints_append]; exact ho11) (by simp))); obtain ⟨yb, ybc, rfl⟩ := Own.shape ho11; obtain ⟨k0, k1, k2⟩ := HS.out w11 HB11.out; obtain ⟨l0, l1, l2⟩ := HS.out (w11.alloc (.cells #[.int .i64 ((stepU a x m : Nat) : Int), .int .i64 ((stepU b y m : Nat) : Int), .slice yb (t.length + 2) ybc] 154)) (HB11.out.trans ((al_below w11 _).mono HB11.out.size)); (have hz11 := HB11.out.size); (have L11 : Hid (Sl 3 w11.heap.size (w11.heap.size + 1) (w11.alloc (.cells #[.int .i64 ((stepU a x m : Nat) : Int), .int .i64 ((stepU b y m : Nat) : Int), .slice yb (t.length + 2) ybc] 154)) (.slice (some ⟨w11.heap.size, 0, none⟩) 1 1) 1 [.int .i64 ((stepU a x m : Nat) : Int), .int .i64 ((stepU b y m : Nat) : Int), .slice yb (t.length + 2) ybc]) := Lib.hid (Own.lit 3 154 w11 [.int .i64 ((stepU a x m : Nat) : Int), .int .i64 ((stepU b y m : Nat) : Int), .slice yb (t.length + 2) ybc] 1 (by omega) rfl).sl); (have HE11 := Lib.hid ((HFQ.out.below HB11.out (Nat.le_refl _)).own.below (al_below w11 (.cells #[.int .i64 ((stepU a x m : Nat) : Int), .int .i64 ((stepU b y m : Nat) : Int), .slice yb (t.length + 2) ybc] 154)) (by omega))); clear ho11 hg11 hl11)
                            | (refine step_app_at (by rfl) _ _ 155 (by rfl) 154 (.agg #[.int .i64 0, .int .i64 0, .slice none 0 0]) 3 40 Tryz.underlying155 info_way (by rfl) (by decide) (by decide) (by rfl) HE11.out (by rfl) L11.out (by intro u hu; simp only [List.mem_cons, List.not_mem_nil, or_false] at hu; rcases hu with rfl | rfl | rfl <;> rfl) (by omega) (by omega) (by simp only [alloc_size]; omega) ?_; intro v12 w12 ho12 hg12 hl12; obtain ⟨q0, q1, q2⟩ := HS12.out _ w12 (HB11.out.trans ((al_below w11 (.cells #[.int .i64 ((stepU a x m : Nat) : Int), .int .i64 ((stepU b y m : Nat) : Int), .slice yb (t.length + 2) ybc] 154)).mono hz11)) hg12; obtain ⟨yd, ydc, rfl⟩ := Own.shape ho12; (have HF12 := Lib.hid (FwI.push HFC.out HPQ.out.2 HPQ.out.1 HB11.out (HOT.out.lower (by omega) (Nat.le_refl _)) (by simp; omega) ho12 hg12 hl12 HNM.out ⟨hsm1, hsm2⟩ HRN.out)); clear ho12 hg12 hl12))
                          all_goals (
                            clear k0 k1 k2 l0 l1 l2 h0 h1 h2 d0 d1 d2 e0 e1 e2 g0 g1 g2 q0 q1 q2
                            go_wp2
                            go_roundw
                            case rel => exact ⟨j + 1, _, _, by omega, by go_num, HF12⟩
                            case measure => simp [intOf]; omega)
                        · rw [hmem] at hlk
                          clear hmem kp HG HF
                          go_wp2
                          go_roundw
                          case rel => exact ⟨j + 1, fs, qs4, by omega, by go_num, HFC⟩
                          case measure => simp [intOf]; omega
                    · obtain rfl : j = 3 := by omega
                      go_wp2
                      go_roundw
                      case rel => exact ⟨α + 1, fs, qs4, by omega, by go_num, HF⟩
                      case measure => simp [intOf]; omega
                · obtain rfl : α = 4 := by omega
                  have HFU := Lib.hid HF.out.fu
                  clear HF
                  go_wp2
                  go_roundw
                  case rel => exact ⟨k + 1, fs, qs3, by omega, by go_num, HFU⟩
                  case measure => simp [intOf]; omega
            · obtain rfl : k = ws.length := by omega
              have HNF := Lib.hid (show LvI a b w wx (.slice fa fs.length fc) (2 * (n + 1)) fs qs2 from ⟨HF.out.ways.lower HIS.out.below.size (Nat.le_refl _) (by omega), HF.out.map, Below.outside HIS.out.below HF.out.out (by omega) HIS.out.below.size, HF.out.seen⟩)
              clear HF
              go_wp2
              go_roundw
              case rel => exact ⟨n + 1, fs, qs2, by omega, by go_num, HNF⟩
              case measure => simp [intOf]; omega
    · obtain rfl : n = 21 := by omega
      go_wp2
      refine bodyPost_ret (v := .tuple #[.slice none 0 0, .bool false]) (by simp [results, Tryz.results77, go_sem]) rfl ?_
      exact RetV.mk _ rfl ⟨_, _, rfl, fun h => (by cases h), HI.out.below⟩
end Go.Proofs.YtplofpdjhelabaaGreatDoor
