/-
  Texts of walks and plain lemmas for this seat; no condition.
-/
import Derived.Test.YtipbanhelhidnaaGreatDoorILine
import Derived.Test.YtipbanhelhidnaaGreatDoorGW
import Derived.Test.YtipbanhelhidnaaGreatDoorDDraws
import Derived.Test.YtipbanhelhidnaaGreatDoorDDeskRun
import Derived.Test.YtipbanhelhidnaaGreatDoorSameA
import Derived.Test.YtipbanhelhidnaaGreatDoorGN
import Derived.Test.YtipbanhelhidnaaGreatDoorGO
import Derived.Test.YtipbanhelhidnaaGreatDoorIRunD
import Derived.Test.YtipbanhelhidnaaGreatDoorAct3
import Derived.Deep.RegionLaw
import Derived.Deep.RegionHeldLaw
import Derived.Deep.RegionHeld3
import Derived.Deep.DeepCutAuto
import Derived.Deep.DrawnRows
namespace Go.Proofs.YtipbanhelhidnaaGreatDoor
open Go.RowKit
set_option linter.unusedVariables false

theorem jrText_len' (acts : List Ac) : (jrText acts).length ≤ 8 * acts.length := by
  unfold jrText
  split
  · rename_i hj
    clear hj
    induction acts with
    | nil => simp [jrGo]
    | cons a r ih =>
      have h := actText_len a
      simp only [jrGo, List.flatMap_cons, List.length_append, List.length_cons, List.length_nil] at ih ⊢
      omega
  · simp

theorem deskRun_size' (D : Dsk) (l : List Ac) : (deskRun D l).1.size ≤ 180 := by
  by_cases h : deskV D = true ∧ l.length ≤ 40
  · rw [deskRun, if_pos h]; exact deskV_size (runA_valid h.1 l)
  · rw [deskRun, if_neg h]; decide
theorem deskRun_valid' {D : Dsk} {l : List Ac} (h : deskV D = true) (hl : l.length ≤ 40) : (deskRun D l).1 = (runA D l).1 := by rw [deskRun, if_pos ⟨h, hl⟩]
theorem acs_app (a b : List Ac) : acs (a ++ b) = acs a ++ acs b := by simp [acs]
theorem SlA.frontA {lo hi n cap : Nat} {w : World} {a : Option Addr} {xs : List Ac} (h : SlA lo hi w (.slice a n cap) xs) (k : Nat) (hk : k ≤ xs.length) : SlA lo hi w (.slice a k cap) (xs.take k) := by
  obtain ⟨a', cap', e, h1, h2, h3, h4, h5⟩ := h
  injection e with e1 e2 e3
  subst e1 e2 e3
  have hl : (xs.take k).length = k := by simp; omega
  have hxs : acs xs = acs (xs.take k) ++ acs (xs.drop k) := by rw [← acs_app, List.take_append_drop]
  have htl : (acs (xs.take k)).length = k * 5 := by rw [acs_length, hl]
  refine ⟨_, _, by rw [hl], by rw [hl]; omega, by omega, acs_length _, h4, fun i hi' => ?_⟩
  rw [htl] at hi'
  obtain ⟨b, off, f1, f2, f3, f4, f5⟩ := h5 i (by rw [acs_length]; omega)
  exact ⟨b, off, f1, f2, f3, f4, by rw [f5, hxs, List.getElem?_append_left (by omega)]⟩

set_option maxRecDepth 100000 in
set_option maxHeartbeats 3200000 in
theorem DrawReadJournal_any (v : Value) (xs : List Int) (w : World) (h : SlB 0 w.heap.size w v xs) :
    Calls Tryz.prog 4 #[v] w (RetSt fun s w' => s.size ≤ 80 ∧ Below w.heap.size w w') := by
  go_enter Tryz.func4, Tryz.ntmps4
  go_wp2_with fail
  refine (l20Open_any _ xs _ h).mono ?_
  rintro e w1 ⟨_, rfl, g, rfl, hg, hb, hr⟩
  have hs1 := hb.size
  have HW := Lib.hid hb
  have HR := Lib.hid hr
  have hg1 := hr.lt
  clear hb hr h
  go_wp2_with fail
  refine (l20Written_any g 0 _ HR.out (by omega)).mono ?_
  rintro e w2 ⟨va, rfl, acl, lo_, hi_, oa_, hlo1, hlohi, hhi1, hal, h_, r_⟩
  have hs2 := h_.size
  obtain ⟨xa, xc, rfl⟩ := Own.shape oa_
  have OA := Lib.hid oa_.sl
  replace HW := Lib.hid (Below.outside HW.out h_ (by omega) (by omega))
  replace HR := Lib.hid r_
  clear h_ r_ oa_
  go_wp2_with fail
  refine (spec_JournalText _ _ _ acl _ OA.out (by omega) hhi1).mono ?_
  rintro e w3 ⟨rfl, hb⟩
  have hs3 := hb.size
  replace HW := Lib.hid (HW.out.trans (hb.mono (by omega)))
  replace HR := Lib.hid (HR.out.below hb (by omega))
  have htl := jrText_len' acl
  obtain ⟨t, ht⟩ : ∃ t, t = jrText acl := ⟨_, rfl⟩
  rw [← ht] at htl ⊢
  clear ht hb OA
  go_wp2_with fail
  refine (pick_any g _ 3 _ HR.out (by omega)).mono ?_
  rintro e w4 ⟨q, rfl, i_, h_, r_⟩
  clear i_
  have hs4 := h_.size
  replace HW := Lib.hid (Below.outside HW.out h_ (by omega) (by omega))
  replace HR := Lib.hid r_
  clear h_ r_
  cases hq0 : q == 0
  · cases hq1 : q == 1
    · go_wp2
      go_ret
      exact ⟨_, rfl, by show t.toArray.size ≤ 80; simp; omega, HW.out⟩
    · go_wp2_with fail
      refine (pick_any g _ _ _ HR.out (by omega)).mono ?_
      rintro e w5 ⟨k, rfl, i_, h_, r_⟩
      obtain ⟨i1, i2⟩ := i_.lt (by omega)
      clear i_
      have hs5 := h_.size
      replace HW := Lib.hid (Below.outside HW.out h_ (by omega) (by omega))
      clear h_ r_
      obtain ⟨k, rfl⟩ : ∃ n : Nat, k = n := ⟨k.toNat, by omega⟩
      have j1 : k ≤ t.length := by omega
      have j2 : (k : Int) ≤ t.length := by omega
      clear i1 i2
      go_wp2
      go_ret
      refine ⟨_, rfl, ?_, HW.out⟩
      simp [ByteArray.size_extract]
      omega
  · go_wp2_with fail
    refine (l20Spoil_any g _ t _ HR.out (by omega) (by omega)).mono ?_
    rintro e w5 ⟨s, rfl, hsz, h_, r_⟩
    have hs5 := h_.size
    replace HW := Lib.hid (Below.outside HW.out h_ (by omega) (by omega))
    clear h_ r_
    go_wp2
    go_ret
    exact ⟨_, rfl, by omega, HW.out⟩

set_option maxRecDepth 100000 in
set_option maxHeartbeats 12800000 in
theorem law_FnReadJournal (v : Value) (cs : List Int) (vb : Value) (ds : List Int) (w : World) (hx : SlB 0 w.heap.size w v cs) (hy : SlB 0 w.heap.size w vb ds) (hN : Env w) (hE : EnvK w) :
    Calls Tryz.prog 3 #[v, vb] w fun e w' => e = .returned (.bool true) ∧ Below w.heap.size w w' := by
  have HX := Lib.hid hx
  have HD := Lib.hid hy
  have HE := Lib.hid hE
  have HN := Lib.hid hN
  obtain ⟨⟨a, cap, rfl, hcap, hcm, _⟩, _⟩ := hx
  obtain ⟨⟨b, cap2, rfl, hcap2, hcm2, _⟩, _⟩ := hy
  unfold maxLen at hcm hcm2
  clear hE hN
  by_cases hm : cs.length ≤ 1048576
  · by_cases hm2 : ds.length ≤ 1048576
    · go_enter Tryz.func3, Tryz.ntmps3
      go_wp2_with fail
      refine (DrawReadJournal_any _ cs _ HX.out).mono ?_
      rintro e w1 ⟨s, rfl, hsz, hb⟩
      obtain ⟨l, rfl⟩ : ∃ l : List UInt8, s = ⟨l.toArray⟩ := ⟨s.data.toList, by cases s; simp⟩
      have hl : l.length ≤ 80 := by have h : l.toArray.size ≤ 80 := hsz; simpa using h
      clear hsz
      have hs1 := hb.size
      have HB := Lib.hid hb
      replace HD := Lib.hid (SlB.wide (SlB.below HD.out hb (Nat.le_refl _)) hb.size)
      clear hb HX
      go_wp2_with fail
      refine (impl_ReadJournal l _ rfl _ (HN.out.below HB.out) (by omega)).mono ?_
      rintro e w2 ⟨va, n2, rfl, hn, oa_, hb⟩
      obtain ⟨hj1, hj2, hj3, hj4⟩ := readJr_text l.length l (Nat.le_refl _)
      have hjt := jrText_back l
      have hpre := fun k => readJr_pre l.length l k (Nat.le_refl _)
      obtain ⟨acts, hacts⟩ : ∃ acts, acts = (readJr l).1 := ⟨_, rfl⟩
      obtain ⟨n, hnn⟩ : ∃ n, n = (readJr l).2 := ⟨_, rfl⟩
      rw [← hacts] at hj3 hj4 hjt hpre oa_
      rw [← hnn] at hj2 hj4 hjt hn
      subst hn
      have HJT := Lib.hid hjt
      have HPRE : Hid (∀ k, (readJr (l.take k)).1 = acts.take (readJr (l.take k)).1.length ∧ (readJr (l.take k)).1.length ≤ acts.length ∧ (readJr (l.take k)).2 ≤ k) := Lib.hid fun k => ⟨List.prefix_iff_eq_take.1 (hpre k).1, (hpre k).1.length_le, (hpre k).2⟩
      have HRA : Hid (∀ j (h : j < acts.length), readAc (actText acts[j]) = some acts[j]) := Lib.hid fun j h => act_read (hj3 _ (List.getElem_mem h))
      have HAC := Lib.hid hacts
      have HNN := Lib.hid hnn
      clear hjt hpre hj1 hj3 hacts hnn
      have hal : acts.length ≤ 40 := by omega
      have hs2 := hb.size
      replace HB := Lib.hid (HB.out.trans (hb.mono (by omega)))
      replace HD := Lib.hid (SlB.wide (SlB.below HD.out hb (Nat.le_refl _)) hb.size)
      have SA := Lib.hid oa_.sl
      obtain ⟨qa, qc, rfl, hqc1, hqc2⟩ := oa_.sl.shape
      unfold maxLen at hqc2
      clear hb oa_
      go_wp2_with fail
      refine (spec_ReadJournal l _ rfl _ (by omega)).mono ?_
      rintro e w3 ⟨vb', n3, rfl, hn, ob_, hb⟩
      rw [← HAC.out] at ob_
      rw [← HNN.out] at hn
      subst hn
      have hs3 := hb.size
      replace HB := Lib.hid (HB.out.trans (hb.mono (by omega)))
      replace HD := Lib.hid (SlB.wide (SlB.below HD.out hb (Nat.le_refl _)) hb.size)
      replace SA := Lib.hid (SlA.below SA.out hb (by omega))
      have SB := Lib.hid ob_.sl
      obtain ⟨qb, qd, rfl, _, _⟩ := ob_.sl.shape
      clear hb ob_ HAC HNN
      have hnn_ : ((n : Int) != (n : Int)) = false := by simp
      go_wp2_with fail
      refine (sameActs_same _ _ _ _ _ _ acts _ SA.out SB.out (by omega)).mono ?_
      rintro e w4 ⟨rfl, hb⟩
      have hs4 := hb.size
      replace HB := Lib.hid (HB.out.trans (hb.mono (by omega)))
      replace HD := Lib.hid (SlB.wide (SlB.below HD.out hb (Nat.le_refl _)) hb.size)
      replace SA := Lib.hid (SlA.below SA.out hb (by omega))
      clear hb SB hnn_
      go_wp2
      go_loopw [10] (fun kv wr => ∃ k : Nat, k ≤ l.length + 1 ∧ kv = .int .i64 k ∧ w4.heap.size ≤ wr.heap.size ∧ Hid (SlA w1.heap.size w2.heap.size wr (.slice qa acts.length qc) acts ∧ SlB 0 wr.heap.size wr (.slice b ds.length cap2) ds ∧ Below w.heap.size w wr)) (fun kv _ => l.length + 1 - (intOf kv).toNat)
      case atStart => exact ⟨0, by omega, rfl, Nat.le_refl _, Lib.hid ⟨SA.out, HD.out, HB.out⟩⟩
      case round =>
        rename World => wr
        clear SA HD HB
        obtain ⟨k, hk, rfl, hzr, HQ⟩ := hrel
        have SA := Lib.hid HQ.out.1
        have HD := Lib.hid HQ.out.2.1
        have HB := Lib.hid HQ.out.2.2
        clear HQ
        by_cases hkl : k ≤ l.length
        · have hkd : decide ((k : Int) ≤ (l.length : Int)) = true := by simp; omega
          have HEX := Lib.hid (extM l 0 k)
          have hj5 : (k : Int) ≤ (l.length : Int) := by omega
          go_wp2_with fail
          refine (impl_ReadJournal (l.take k) _ (by have := HEX.out; simpa using this) _ (HN.out.below HB.out) (by simp; omega)).mono ?_
          rintro e w5 ⟨vx, n5, rfl, hn5, ox_, hb⟩
          obtain ⟨p1, p2, p3⟩ := HPRE.out k
          obtain ⟨xs, hxs⟩ : ∃ xs, xs = (readJr (l.take k)).1 := ⟨_, rfl⟩
          obtain ⟨m, hmm⟩ : ∃ m, m = (readJr (l.take k)).2 := ⟨_, rfl⟩
          rw [← hxs] at ox_ p1 p2
          rw [← hmm] at hn5 p3
          subst hn5
          have hs5 := hb.size
          have SF : Hid (SlA w1.heap.size w2.heap.size w5 (.slice qa xs.length qc) xs) := Lib.hid (by
            have h := SlA.frontA (SlA.below SA.out hb (by omega)) xs.length p2
            rwa [← p1] at h)
          replace HB := Lib.hid (HB.out.trans (hb.mono (by omega)))
          replace HD := Lib.hid (SlB.wide (SlB.below HD.out hb (Nat.le_refl _)) hb.size)
          replace SA := Lib.hid (SlA.below SA.out hb (by omega))
          have SX := Lib.hid ox_.sl
          obtain ⟨xa, xc, rfl, _, _⟩ := ox_.sl.shape
          clear hb ox_ hxs hmm p1 HEX
          have i1 : decide ((xs.length : Int) > (acts.length : Int)) = false := by simp; omega
          have i2 : min (xs.length : Int) (acts.length : Int) = (xs.length : Int) := by omega
          have i3 : decide ((m : Int) > (k : Int)) = false := by simp; omega
          have i4 : (xs.length : Int) ≤ (qc : Int) := by omega
          have i5 : xs.length ≤ qc := by omega
          go_wp2_with fail
          refine (sameActs_same _ _ _ _ _ _ xs _ SX.out SF.out (by omega)).mono ?_
          rintro e w6 ⟨rfl, hb⟩
          have hs6 := hb.size
          replace HB := Lib.hid (HB.out.trans (hb.mono (by omega)))
          replace HD := Lib.hid (SlB.wide (SlB.below HD.out hb (Nat.le_refl _)) hb.size)
          replace SA := Lib.hid (SlA.below SA.out hb (by omega))
          clear hb SX SF
          go_wp2
          go_roundw
          case rel => exact ⟨k + 1, by omega, by go_num, by omega, Lib.hid ⟨SA.out, HD.out, HB.out⟩⟩
          case measure => simp [intOf]; omega
        · obtain rfl : k = l.length + 1 := by omega
          have hkd : decide (((l.length + 1 : Nat) : Int) ≤ (l.length : Int)) = false := by simp; omega
          go_wp2_with fail
          refine (DrawDeskRun_any _ ds _ HD.out).mono ?_
          rintro e w7 ⟨e0, e1, e2, e3, vl, D, L, rfl, hb, hd, hsD, hl_, hll⟩
          have hs7 := hb.size
          replace HB := Lib.hid (HB.out.trans (hb.mono (by omega)))
          replace SA := Lib.hid (SlA.below SA.out hb (by omega))
          obtain ⟨p0, p1, p2, p3, p4, p5, p6, p7, rfl, rfl, rfl, rfl, _⟩ := hd.shapes
          obtain ⟨la, lc, rfl, _, _⟩ := hl_.shape
          have OD := Lib.hid hd
          clear hb hd hl_ HD
          obtain ⟨w9, hw9⟩ : ∃ w9, w9 = (w7.alloc (.cells #[(.slice p0 D.first.length p1), (.slice p2 D.goal.length p3), (.slice p4 D.made.length p5), (.slice p6 D.now.length p7)] 31)).alloc (.cells #[(.slice p0 D.first.length p1), (.slice p2 D.goal.length p3), (.slice p4 D.made.length p5), (.slice p6 D.now.length p7)] 31) := ⟨_, rfl⟩
          obtain ⟨gd, hgd⟩ : ∃ g_, g_ = w7.heap.size := ⟨_, rfl⟩
          have hb9 : Below w7.heap.size w7 w9 := by rw [hw9]; exact ((Below.refl _ _).alloc (Nat.le_refl _) _).alloc (by simp) _
          have hs9 : w9.heap.size = w7.heap.size + 2 := by rw [hw9]; simp
          have KD : Hid (Blk gd (.cells #[(.slice p0 D.first.length p1), (.slice p2 D.goal.length p3), (.slice p4 D.made.length p5), (.slice p6 D.now.length p7)] 31) w9) := by
            rw [hw9, hgd]
            exact Lib.hid ((Blk.new w7 _).below ((Below.refl (w7.alloc _).heap.size _).alloc (Nat.le_refl _) _) (by simp))
          have KW : Hid (Blk (gd + 1) (.cells #[(.slice p0 D.first.length p1), (.slice p2 D.goal.length p3), (.slice p4 D.made.length p5), (.slice p6 D.now.length p7)] 31) w9) := by
            have h := Blk.new (w7.alloc (.cells #[(.slice p0 D.first.length p1), (.slice p2 D.goal.length p3), (.slice p4 D.made.length p5), (.slice p6 D.now.length p7)] 31)) (.cells #[(.slice p0 D.first.length p1), (.slice p2 D.goal.length p3), (.slice p4 D.made.length p5), (.slice p6 D.now.length p7)] 31)
            rw [alloc_size] at h
            rw [hw9, hgd]; exact Lib.hid h
          have n0 := (Blk.new w7 (.cells #[(.slice p0 D.first.length p1), (.slice p2 D.goal.length p3), (.slice p4 D.made.length p5), (.slice p6 D.now.length p7)] 31)).cell 0
          have n1 := (Blk.new w7 (.cells #[(.slice p0 D.first.length p1), (.slice p2 D.goal.length p3), (.slice p4 D.made.length p5), (.slice p6 D.now.length p7)] 31)).cell 1
          have n2 := (Blk.new w7 (.cells #[(.slice p0 D.first.length p1), (.slice p2 D.goal.length p3), (.slice p4 D.made.length p5), (.slice p6 D.now.length p7)] 31)).cell 2
          have n3 := (Blk.new w7 (.cells #[(.slice p0 D.first.length p1), (.slice p2 D.goal.length p3), (.slice p4 D.made.length p5), (.slice p6 D.now.length p7)] 31)).cell 3
          have HW9 := Lib.hid hw9
          have HGD := Lib.hid hgd
          replace OD := Lib.hid (OD.out.below hb9 (Nat.le_refl _))
          replace HB := Lib.hid (HB.out.trans (hb9.mono (by omega)))
          replace SA := Lib.hid (SlA.below SA.out hb9 (by omega))
          clear hb9 hw9 hgd
          cases hv : deskV D with
          | false =>
            have HV := Lib.hid hv
            clear hv
            go_wp2_with fail
            simp only [← HW9.out, ← HGD.out]
            have hgs : w7.heap.size = gd := HGD.out.symm
            clear n0 n1 n2 n3 HW9 HGD
            rw [hgs] at OD hs9 hs7
            clear hgs
            go_loopw [16] (fun kv wr => kv = .int .i64 0 ∧ wr = w9) (fun _ _ => 0)
            case atStart => exact ⟨rfl, rfl⟩
            case round =>
              obtain ⟨rfl, rfl⟩ := hrel
              rename_i wr
              by_cases h0 : acts.length = 0
              · have h0d : decide ((0 : Int) < (acts.length : Int)) = false := decide_eq_false (by omega)
                have h0e : ¬ ((0 : Int) < (acts.length : Int)) := by omega
                have h0f : ¬ (0 < acts.length) := by omega
                clear h0
                have c0 := KD.out.cell 0
                have c1 := KD.out.cell 1
                have c2 := KD.out.cell 2
                have c3 := KD.out.cell 3
                go_wp2_with fail
                refine (impl_DeskRun _ _ _ _ _ _ _ _ _ D acts _ (HE.out.below HB.out) OD.out (by omega) (by omega) SA.out (by omega)).mono ?_
                rintro e w20a ⟨t0, t1, t2, t3, nn, rfl, o_, hn_, hb⟩
                clear hn_
                obtain ⟨Q, hQ⟩ : ∃ Q, Q = (deskRun D acts).1 := ⟨_, rfl⟩
                have hQs : Q.size ≤ 1048576 := by rw [hQ]; exact Nat.le_trans (deskRun_size' D acts) (by omega)
                rw [← hQ] at o_
                have HQ := Lib.hid hQ
                clear hQ
                obtain ⟨z0, z1, z2, z3, z4, z5, z6, z7, rfl, rfl, rfl, rfl, _⟩ := o_.at.shapes
                have OQ := Lib.hid o_.at
                have hs20a := hb.size
                replace OD := Lib.hid (OD.out.below hb (by omega))
                replace KD := Lib.hid (KD.out.below hb (by omega))
                replace KW := Lib.hid (KW.out.below hb (by omega))
                replace SA := Lib.hid (SlA.below SA.out hb (by omega))
                replace HB := Lib.hid (HB.out.trans (hb.mono (by omega)))
                clear hb o_ c0 c1 c2 c3
                obtain ⟨w20b, hw_⟩ : ∃ w_, w_ = w20a.alloc (.cells #[(.slice z0 Q.first.length z1), (.slice z2 Q.goal.length z3), (.slice z4 Q.made.length z5), (.slice z6 Q.now.length z7)] 31) := ⟨_, rfl⟩
                obtain ⟨hb, KQ_, hs20b⟩ := box_facts2 hw_
                have KQ := Lib.hid KQ_
                replace OD := Lib.hid (OD.out.below hb (by omega))
                replace KD := Lib.hid (KD.out.below hb (by omega))
                replace KW := Lib.hid (KW.out.below hb (by omega))
                replace OQ := Lib.hid (OQ.out.below hb (by omega))
                replace SA := Lib.hid (SlA.below SA.out hb (by omega))
                replace HB := Lib.hid (HB.out.trans (hb.mono (by omega)))
                clear hb KQ_
                have HW_ := Lib.hid hw_
                clear hw_
                obtain ⟨gq, hgq⟩ : ∃ g_, g_ = w20a.heap.size := ⟨_, rfl⟩
                rw [← hgq] at KQ
                have HGQ := Lib.hid hgq
                have hgq1 : gq < w20b.heap.size := by omega
                clear hgq
                go_upto_region 24 with fail
                simp only [← HW_.out, ← HGQ.out]
                clear HW_ HGQ
                have bd_ : Below w20b.heap.size w20b w20b.drew := Below.drew (Below.refl _ _)
                have hdz_ : w20b.drew.heap.size = w20b.heap.size := rfl
                replace OD := Lib.hid (OD.out.below bd_ (by omega))
                replace KD := Lib.hid (KD.out.below bd_ (by omega))
                replace KW := Lib.hid (KW.out.below bd_ (by omega))
                replace OQ := Lib.hid (OQ.out.below bd_ (by omega))
                replace KQ := Lib.hid (KQ.out.below bd_ (by omega))
                replace SA := Lib.hid (SlA.below SA.out bd_ (by omega))
                replace HB := Lib.hid (HB.out.trans (bd_.mono (by omega)))
                clear bd_
                have m1 : decide ((n : Int) ≤ (l.length : Int)) = true := by simp; omega
                have m2 : (n : Int) ≤ (l.length : Int) := by omega
                have m3 : (0 : Int) ≤ (n : Int) := by omega
                have m4 := extM l 0 n
                simp only [List.drop_zero, Nat.sub_zero] at m4
                have m5 : decide ((acts.length : Int) > 40) = false := by simp; omega
                have s00 := KD.out.cell 0
                have s01 := KD.out.cell 1
                have s02 := KD.out.cell 2
                have s03 := KD.out.cell 3
                have s10 := KW.out.cell 0
                have s11 := KW.out.cell 1
                have s12 := KW.out.cell 2
                have s13 := KW.out.cell 3
                have s20 := KQ.out.cell 0
                have s21 := KQ.out.cell 1
                have s22 := KQ.out.cell 2
                have s23 := KQ.out.cell 3
                conv in (Oper.mk (some 146) _ _ _ _ _) => change id _
                conv in (Oper.mk (some 147) _ _ _ _ _) => change id _
                first
                | (go_region_held_law (fun w' => w'.cell? ⟨gd, 0, none⟩ = some (.slice p0 D.first.length p1) ∧ w'.cell? ⟨gd, 1, none⟩ = some (.slice p2 D.goal.length p3) ∧ w'.cell? ⟨gd, 2, none⟩ = some (.slice p4 D.made.length p5) ∧ w'.cell? ⟨gd, 3, none⟩ = some (.slice p6 D.now.length p7) ∧ w'.cell? ⟨gd + 1, 0, none⟩ = some (.slice p0 D.first.length p1) ∧ w'.cell? ⟨gd + 1, 1, none⟩ = some (.slice p2 D.goal.length p3) ∧ w'.cell? ⟨gd + 1, 2, none⟩ = some (.slice p4 D.made.length p5) ∧ w'.cell? ⟨gd + 1, 3, none⟩ = some (.slice p6 D.now.length p7) ∧ w'.cell? ⟨gq, 0, none⟩ = some (.slice z0 Q.first.length z1) ∧ w'.cell? ⟨gq, 1, none⟩ = some (.slice z2 Q.goal.length z3) ∧ w'.cell? ⟨gq, 2, none⟩ = some (.slice z4 Q.made.length z5) ∧ w'.cell? ⟨gq, 3, none⟩ = some (.slice z6 Q.now.length z7)) (first | with_reducible assumption | go_keep) (first
                  | ((have g_ := HBb); go_at_call 15; refine (alive_any _).mono ?_; rintro e9 _ ⟨rfl, rfl⟩; clear g_)
                  | ((have g_ := HBa); go_at_call 9; refine (spec_DeskValid _ _ _ _ _ _ D _ ODa.out (by omega) (by omega)).mono ?_; rintro e7 w20d ⟨rfl, h_⟩; rw [HV.out]; (have hs_w20d := h_.size); (have KDb := Lib.hid (KDa.out.below h_ (by omega))); (have KWb := Lib.hid (KWa.out.below h_ (by omega))); (have KQb := Lib.hid (KQa.out.below h_ (by omega))); (have ODb := Lib.hid (ODa.out.below h_ (by omega))); (have sb00 := KDb.out.cell 0); (have sb01 := KDb.out.cell 1); (have sb02 := KDb.out.cell 2); (have sb03 := KDb.out.cell 3); (have sb10 := KWb.out.cell 0); (have sb11 := KWb.out.cell 1); (have sb12 := KWb.out.cell 2); (have sb13 := KWb.out.cell 3); (have sb20 := KQb.out.cell 0); (have sb21 := KQb.out.cell 1); (have sb22 := KQb.out.cell 2); (have sb23 := KQb.out.cell 3); (have HBb := Lib.hid (HBa.out.trans (h_.mono (by omega)))); clear h_ g_)
                  | (go_at_call 13; refine (impl_JournalText _ _ _ acts _ SA.out (by omega) (by omega)).mono ?_; rintro e6 w20c ⟨rfl, h_⟩; rw [HJT.out]; (have hs_w20c := h_.size); (have KDa := Lib.hid (KD.out.below h_ (by omega))); (have KWa := Lib.hid (KW.out.below h_ (by omega))); (have KQa := Lib.hid (KQ.out.below h_ (by omega))); (have ODa := Lib.hid (OD.out.below h_ (by omega))); (have sa00 := KDa.out.cell 0); (have sa01 := KDa.out.cell 1); (have sa02 := KDa.out.cell 2); (have sa03 := KDa.out.cell 3); (have sa10 := KWa.out.cell 0); (have sa11 := KWa.out.cell 1); (have sa12 := KWa.out.cell 2); (have sa13 := KWa.out.cell 3); (have sa20 := KQa.out.cell 0); (have sa21 := KQa.out.cell 1); (have sa22 := KQa.out.cell 2); (have sa23 := KQa.out.cell 3); (have HBa := Lib.hid (HB.out.trans (h_.mono (by omega)))); clear h_)))
                | fail
                all_goals (
                  go_wp2
                  go_ret
                  exact ⟨rfl, HBb.out⟩)
              · have h0d : decide ((0 : Int) < (acts.length : Int)) = true := decide_eq_true (by omega)
                have c0 := KD.out.cell 0
                have c1 := KD.out.cell 1
                have c2 := KD.out.cell 2
                have c3 := KD.out.cell 3
                go_wp2_with fail
                refine (spec_DeskValid _ _ _ _ _ _ D _ OD.out (by omega) (by omega)).mono ?_
                rintro e w10 ⟨rfl, hb⟩
                rw [HV.out]
                have hs10 := hb.size
                replace HB := Lib.hid (HB.out.trans (hb.mono (by omega)))
                replace SA := Lib.hid (SlA.below SA.out hb (by omega))
                replace OD := Lib.hid (OD.out.below hb (by omega))
                replace KD := Lib.hid (KD.out.below hb (by omega))
                replace KW := Lib.hid (KW.out.below hb (by omega))
                clear hb c0 c1 c2 c3
                have c0 := KD.out.cell 0
                have c1 := KD.out.cell 1
                have c2 := KD.out.cell 2
                have c3 := KD.out.cell 3
                go_wp2_with fail
                refine (impl_DeskRun _ _ _ _ _ _ _ _ _ D acts _ (HE.out.below HB.out) OD.out (by omega) (by omega) SA.out (by omega)).mono ?_
                rintro e w30a ⟨t0, t1, t2, t3, nn, rfl, o_, hn_, hb⟩
                clear hn_
                obtain ⟨Q, hQ⟩ : ∃ Q, Q = (deskRun D acts).1 := ⟨_, rfl⟩
                have hQs : Q.size ≤ 1048576 := by rw [hQ]; exact Nat.le_trans (deskRun_size' D acts) (by omega)
                rw [← hQ] at o_
                have HQ := Lib.hid hQ
                clear hQ
                obtain ⟨z0, z1, z2, z3, z4, z5, z6, z7, rfl, rfl, rfl, rfl, _⟩ := o_.at.shapes
                have OQ := Lib.hid o_.at
                have hs30a := hb.size
                replace OD := Lib.hid (OD.out.below hb (by omega))
                replace KD := Lib.hid (KD.out.below hb (by omega))
                replace KW := Lib.hid (KW.out.below hb (by omega))
                replace SA := Lib.hid (SlA.below SA.out hb (by omega))
                replace HB := Lib.hid (HB.out.trans (hb.mono (by omega)))
                clear hb o_ c0 c1 c2 c3
                obtain ⟨w30b, hw_⟩ : ∃ w_, w_ = w30a.alloc (.cells #[(.slice z0 Q.first.length z1), (.slice z2 Q.goal.length z3), (.slice z4 Q.made.length z5), (.slice z6 Q.now.length z7)] 31) := ⟨_, rfl⟩
                obtain ⟨hb, KQ_, hs30b⟩ := box_facts2 hw_
                have KQ := Lib.hid KQ_
                replace OD := Lib.hid (OD.out.below hb (by omega))
                replace KD := Lib.hid (KD.out.below hb (by omega))
                replace KW := Lib.hid (KW.out.below hb (by omega))
                replace OQ := Lib.hid (OQ.out.below hb (by omega))
                replace SA := Lib.hid (SlA.below SA.out hb (by omega))
                replace HB := Lib.hid (HB.out.trans (hb.mono (by omega)))
                clear hb KQ_
                have HW_ := Lib.hid hw_
                clear hw_
                obtain ⟨gq, hgq⟩ : ∃ g_, g_ = w30a.heap.size := ⟨_, rfl⟩
                rw [← hgq] at KQ
                have HGQ := Lib.hid hgq
                have hgq1 : gq < w30b.heap.size := by omega
                clear hgq
                go_upto_region 24 with fail
                simp only [← HW_.out, ← HGQ.out]
                clear HW_ HGQ
                have bd_ : Below w30b.heap.size w30b w30b.drew := Below.drew (Below.refl _ _)
                have hdz_ : w30b.drew.heap.size = w30b.heap.size := rfl
                replace OD := Lib.hid (OD.out.below bd_ (by omega))
                replace KD := Lib.hid (KD.out.below bd_ (by omega))
                replace KW := Lib.hid (KW.out.below bd_ (by omega))
                replace OQ := Lib.hid (OQ.out.below bd_ (by omega))
                replace KQ := Lib.hid (KQ.out.below bd_ (by omega))
                replace SA := Lib.hid (SlA.below SA.out bd_ (by omega))
                replace HB := Lib.hid (HB.out.trans (bd_.mono (by omega)))
                clear bd_
                have m1 : decide ((n : Int) ≤ (l.length : Int)) = true := by simp; omega
                have m2 : (n : Int) ≤ (l.length : Int) := by omega
                have m3 : (0 : Int) ≤ (n : Int) := by omega
                have m4 := extM l 0 n
                simp only [List.drop_zero, Nat.sub_zero] at m4
                have m5 : decide ((acts.length : Int) > 40) = false := by simp; omega
                have s00 := KD.out.cell 0
                have s01 := KD.out.cell 1
                have s02 := KD.out.cell 2
                have s03 := KD.out.cell 3
                have s10 := KW.out.cell 0
                have s11 := KW.out.cell 1
                have s12 := KW.out.cell 2
                have s13 := KW.out.cell 3
                have s20 := KQ.out.cell 0
                have s21 := KQ.out.cell 1
                have s22 := KQ.out.cell 2
                have s23 := KQ.out.cell 3
                conv in (Oper.mk (some 146) _ _ _ _ _) => change id _
                conv in (Oper.mk (some 147) _ _ _ _ _) => change id _
                first
                | (go_region_held_law (fun w' => w'.cell? ⟨gd, 0, none⟩ = some (.slice p0 D.first.length p1) ∧ w'.cell? ⟨gd, 1, none⟩ = some (.slice p2 D.goal.length p3) ∧ w'.cell? ⟨gd, 2, none⟩ = some (.slice p4 D.made.length p5) ∧ w'.cell? ⟨gd, 3, none⟩ = some (.slice p6 D.now.length p7) ∧ w'.cell? ⟨gd + 1, 0, none⟩ = some (.slice p0 D.first.length p1) ∧ w'.cell? ⟨gd + 1, 1, none⟩ = some (.slice p2 D.goal.length p3) ∧ w'.cell? ⟨gd + 1, 2, none⟩ = some (.slice p4 D.made.length p5) ∧ w'.cell? ⟨gd + 1, 3, none⟩ = some (.slice p6 D.now.length p7) ∧ w'.cell? ⟨gq, 0, none⟩ = some (.slice z0 Q.first.length z1) ∧ w'.cell? ⟨gq, 1, none⟩ = some (.slice z2 Q.goal.length z3) ∧ w'.cell? ⟨gq, 2, none⟩ = some (.slice z4 Q.made.length z5) ∧ w'.cell? ⟨gq, 3, none⟩ = some (.slice z6 Q.now.length z7)) (first | with_reducible assumption | go_keep) (first
                  | ((have g_ := HBb); go_at_call 15; refine (alive_any _).mono ?_; rintro e9 _ ⟨rfl, rfl⟩; clear g_)
                  | ((have g_ := HBa); go_at_call 9; refine (spec_DeskValid _ _ _ _ _ _ D _ ODa.out (by omega) (by omega)).mono ?_; rintro e7 w30d ⟨rfl, h_⟩; rw [HV.out]; (have hs_w30d := h_.size); (have KDb := Lib.hid (KDa.out.below h_ (by omega))); (have KWb := Lib.hid (KWa.out.below h_ (by omega))); (have KQb := Lib.hid (KQa.out.below h_ (by omega))); (have ODb := Lib.hid (ODa.out.below h_ (by omega))); (have sb00 := KDb.out.cell 0); (have sb01 := KDb.out.cell 1); (have sb02 := KDb.out.cell 2); (have sb03 := KDb.out.cell 3); (have sb10 := KWb.out.cell 0); (have sb11 := KWb.out.cell 1); (have sb12 := KWb.out.cell 2); (have sb13 := KWb.out.cell 3); (have sb20 := KQb.out.cell 0); (have sb21 := KQb.out.cell 1); (have sb22 := KQb.out.cell 2); (have sb23 := KQb.out.cell 3); (have HBb := Lib.hid (HBa.out.trans (h_.mono (by omega)))); clear h_ g_)
                  | (go_at_call 13; refine (impl_JournalText _ _ _ acts _ SA.out (by omega) (by omega)).mono ?_; rintro e6 w30c ⟨rfl, h_⟩; rw [HJT.out]; (have hs_w30c := h_.size); (have KDa := Lib.hid (KD.out.below h_ (by omega))); (have KWa := Lib.hid (KW.out.below h_ (by omega))); (have KQa := Lib.hid (KQ.out.below h_ (by omega))); (have ODa := Lib.hid (OD.out.below h_ (by omega))); (have sa00 := KDa.out.cell 0); (have sa01 := KDa.out.cell 1); (have sa02 := KDa.out.cell 2); (have sa03 := KDa.out.cell 3); (have sa10 := KWa.out.cell 0); (have sa11 := KWa.out.cell 1); (have sa12 := KWa.out.cell 2); (have sa13 := KWa.out.cell 3); (have sa20 := KQa.out.cell 0); (have sa21 := KQa.out.cell 1); (have sa22 := KQa.out.cell 2); (have sa23 := KQa.out.cell 3); (have HBa := Lib.hid (HB.out.trans (h_.mono (by omega)))); clear h_)))
                | fail
                all_goals (
                  go_wp2
                  go_ret
                  exact ⟨rfl, HBb.out⟩)
          | true =>
            have HV := Lib.hid hv
            clear hv
            go_wp2_with fail
            simp only [← HW9.out, ← HGD.out]
            have hgs : w7.heap.size = gd := HGD.out.symm
            clear n0 n1 n2 n3 HW9 HGD
            rw [hgs] at OD hs9 hs7
            clear hgs
            go_loopw [16] (fun kv wr => ∃ (k : Nat) (y0 y1 y2 y3 : Value) (l_ h_ : Nat), k ≤ acts.length ∧ kv = .int .i64 k ∧ w9.heap.size ≤ wr.heap.size ∧ h_ ≤ wr.heap.size ∧ (h_ ≤ gd + 1 ∨ gd + 2 ≤ l_) ∧ Hid (Blk (gd + 1) (.cells #[y0, y1, y2, y3] 31) wr ∧ DeskAt l_ h_ wr y0 y1 y2 y3 (runA D (acts.take k)).1 ∧ Blk gd (.cells #[(.slice p0 D.first.length p1), (.slice p2 D.goal.length p3), (.slice p4 D.made.length p5), (.slice p6 D.now.length p7)] 31) wr ∧ DeskAt 0 gd wr (.slice p0 D.first.length p1) (.slice p2 D.goal.length p3) (.slice p4 D.made.length p5) (.slice p6 D.now.length p7) D ∧ SlA w1.heap.size w2.heap.size wr (.slice qa acts.length qc) acts ∧ Below w.heap.size w wr)) (fun kv _ => acts.length - (intOf kv).toNat)
            case atStart => exact ⟨0, _, _, _, _, 0, gd, by omega, rfl, Nat.le_refl _, by omega, .inl (by omega), Lib.hid ⟨KW.out, OD.out, KD.out, OD.out, SA.out, HB.out⟩⟩
            case round =>
              rename World => wr
              clear KW KD OD SA HB
              obtain ⟨k, y0, y1, y2, y3, l_, h_, hk, rfl, hzr, hhr, hdj, HQ⟩ := hrel
              have KW := Lib.hid HQ.out.1
              have ON := Lib.hid HQ.out.2.1
              have KD := Lib.hid HQ.out.2.2.1
              have OD := Lib.hid HQ.out.2.2.2.1
              have SA := Lib.hid HQ.out.2.2.2.2.1
              have HB := Lib.hid HQ.out.2.2.2.2.2
              clear HQ
              have hvN := runA_valid (D := D) HV.out (acts.take k)
              have hrun : ∀ h : k < acts.length, (runA D (acts.take (k + 1))).1 = (deskDo (runA D (acts.take k)).1 acts[k]).1 := fun h => by rw [runA_snoc D acts k h]; rfl
              obtain ⟨N, hNN⟩ : ∃ N, N = (runA D (acts.take k)).1 := ⟨_, rfl⟩
              rw [← hNN] at ON hvN hrun
              have hmN : N.size ≤ 1048576 := Nat.le_trans (deskV_size hvN) (by omega)
              have HRUN := Lib.hid hrun
              have HVN := Lib.hid hvN
              have HNN := Lib.hid hNN
              clear hrun hvN hNN
              obtain ⟨u0, u1, u2, u3, u4, u5, u6, u7, rfl, rfl, rfl, rfl, _⟩ := ON.out.shapes
              have c0 := KD.out.cell 0
              have c1 := KD.out.cell 1
              have c2 := KD.out.cell 2
              have c3 := KD.out.cell 3
              by_cases hlt : k < acts.length
              · have hkd2 : decide ((k : Int) < (acts.length : Int)) = true := by simp; omega
                go_wp2_with fail
                refine (spec_DeskValid _ _ _ _ _ _ D _ OD.out (by omega) (by omega)).mono ?_
                rintro e w10 ⟨rfl, hb⟩
                rw [HV.out]
                have hs10 := hb.size
                replace HB := Lib.hid (HB.out.trans (hb.mono (by omega)))
                replace SA := Lib.hid (SlA.below SA.out hb (by omega))
                replace OD := Lib.hid (OD.out.below hb (by omega))
                replace ON := Lib.hid (ON.out.below hb (by omega))
                replace KD := Lib.hid (KD.out.below hb (by omega))
                replace KW := Lib.hid (KW.out.below hb (by omega))
                clear hb c0 c1 c2 c3
                obtain ⟨gb, off, rfl, hgb1, hgb2, hgb3, q0, q1, q2, q3, q4⟩ := SA.out.get k hlt
                have HRT := Lib.hid (HRA.out k hlt)
                have htl := actText_len acts[k]
                obtain ⟨tx, htx⟩ : ∃ tx, tx = actText acts[k] := ⟨_, rfl⟩
                rw [← htx] at HRT htl
                have HRN := Lib.hid (HRUN.out hlt)
                obtain ⟨A, hA⟩ : ∃ A, A = acts[k] := ⟨_, rfl⟩
                rw [← hA] at q0 q1 q2 q3 q4 htx HRT HRN
                have HAT : Hid (∀ U : World, Calls Tryz.prog 11 #[.agg #[.int .i64 A.kind, .int .i64 A.step.which, .bool A.step.back, .int .i64 A.step.at_, .int .i64 A.count]] U fun e w' => e = .returned (.string ⟨tx.toArray⟩) ∧ Below U.heap.size U w') := Lib.hid fun U => by rw [htx]; exact impl_ActText A U
                clear htx hA
                obtain ⟨R, t, hR⟩ : ∃ R t, deskDo N A = (R, t) := ⟨_, _, rfl⟩
                rw [hR] at HRN
                have HR := Lib.hid hR
                clear hR
                go_upto_region 19 with fail
                go_cut [17, 18] (fun p_ q_ wx => ∃ (g_ : Nat) (y0 y1 y2 y3 : Value) (l_ h_ : Nat), p_ = .pointer (some ⟨g_, 0, none⟩) ∧ q_ = .string (okS t) ∧ Hid (Blk g_ (.cells #[y0, y1, y2, y3] 31) wx ∧ DeskOwn l_ h_ wx y0 y1 y2 y3 R ∧ h_ ≤ wx.heap.size ∧ w10.heap.size ≤ g_ ∧ w10.heap.size ≤ l_ ∧ (g_ < l_ ∨ h_ ≤ g_) ∧ Below w10.heap.size w10 wx))
                case first =>
                  have hbA : Below w10.heap.size w10 w10.drew := Below.drew (Below.refl _ _)
                  have hbB : Below w10.heap.size w10 (w10.alloc (.cells #[.slice none 0 0, .slice none 0 0, .slice none 0 0, .slice none 0 0] 31)).drew := Below.drew ((Below.refl _ _).alloc (Nat.le_refl _) _)
                  have hdA : w10.drew.heap.size = w10.heap.size := rfl
                  have hdB : (w10.alloc (.cells #[.slice none 0 0, .slice none 0 0, .slice none 0 0, .slice none 0 0] 31)).drew.heap.size = w10.heap.size + 1 := alloc_size _ _
                  have KNB := Lib.hid (show Blk w10.heap.size (.cells #[.slice none 0 0, .slice none 0 0, .slice none 0 0, .slice none 0 0] 31) (w10.alloc (.cells #[.slice none 0 0, .slice none 0 0, .slice none 0 0, .slice none 0 0] 31)).drew from Blk.new w10 _)
                  have hgs : ∀ w' : World, Below w10.heap.size w10 w' → w'.cell? ⟨gd + 1, 0, none⟩ = some (.slice u0 N.first.length u1) ∧ w'.cell? ⟨gd + 1, 1, none⟩ = some (.slice u2 N.goal.length u3) ∧ w'.cell? ⟨gd + 1, 2, none⟩ = some (.slice u4 N.made.length u5) ∧ w'.cell? ⟨gd + 1, 3, none⟩ = some (.slice u6 N.now.length u7) ∧ w'.cell? ⟨gb, off + k * 5, none⟩ = some (.int .i64 A.kind) ∧ w'.cell? ⟨gb, off + k * 5 + 1, none⟩ = some (.int .i64 A.step.which) ∧ w'.cell? ⟨gb, off + k * 5 + 2, none⟩ = some (.bool A.step.back) ∧ w'.cell? ⟨gb, off + k * 5 + 3, none⟩ = some (.int .i64 A.step.at_) ∧ w'.cell? ⟨gb, off + k * 5 + 4, none⟩ = some (.int .i64 A.count) := fun w' hb => ⟨(KW.out.below hb (by omega)).cell 0, (KW.out.below hb (by omega)).cell 1, (KW.out.below hb (by omega)).cell 2, (KW.out.below hb (by omega)).cell 3, (hb.cell (p := ⟨gb, off + k * 5, none⟩) hgb3).trans q0, (hb.cell (p := ⟨gb, off + k * 5 + 1, none⟩) hgb3).trans q1, (hb.cell (p := ⟨gb, off + k * 5 + 2, none⟩) hgb3).trans q2, (hb.cell (p := ⟨gb, off + k * 5 + 3, none⟩) hgb3).trans q3, (hb.cell (p := ⟨gb, off + k * 5 + 4, none⟩) hgb3).trans q4⟩
                  have hS := hgs w10 (Below.refl _ _)
                  have hSA := hgs _ hbA
                  have hSB := hgs _ hbB
                  have HGS := Lib.hid hgs
                  clear hgs
                  go_region_held3 (fun w' => w'.cell? ⟨gd + 1, 0, none⟩ = some (.slice u0 N.first.length u1) ∧ w'.cell? ⟨gd + 1, 1, none⟩ = some (.slice u2 N.goal.length u3) ∧ w'.cell? ⟨gd + 1, 2, none⟩ = some (.slice u4 N.made.length u5) ∧ w'.cell? ⟨gd + 1, 3, none⟩ = some (.slice u6 N.now.length u7) ∧ w'.cell? ⟨gb, off + k * 5, none⟩ = some (.int .i64 A.kind) ∧ w'.cell? ⟨gb, off + k * 5 + 1, none⟩ = some (.int .i64 A.step.which) ∧ w'.cell? ⟨gb, off + k * 5 + 2, none⟩ = some (.bool A.step.back) ∧ w'.cell? ⟨gb, off + k * 5 + 3, none⟩ = some (.int .i64 A.step.at_) ∧ w'.cell? ⟨gb, off + k * 5 + 4, none⟩ = some (.int .i64 A.count)) (first | with_reducible assumption | go_keep) (first
                    | (go_at_call 11; refine (HAT.out w10.drew).mono ?_; rintro e2 w11 ⟨rfl, hb_⟩; (have hs_w11 := hb_.size); (have hb2 := hbA.trans (hb_.mono (by omega))); (have hS2 := HGS.out _ hb2); (have hSN2 := HGS.out _ (hb2.alloc (by omega) (.cells #[.slice none 0 0, .slice none 0 0, .slice none 0 0, .slice none 0 0] 31))); (have hz_w11 : (w11.alloc (.cells #[.slice none 0 0, .slice none 0 0, .slice none 0 0, .slice none 0 0] 31)).heap.size = w11.heap.size + 1 := alloc_size _ _); clear hb_)
                    | (go_at_call 11; refine (HAT.out (w10.alloc (.cells #[.slice none 0 0, .slice none 0 0, .slice none 0 0, .slice none 0 0] 31)).drew).mono ?_; rintro e2 w11 ⟨rfl, hb_⟩; (have hs_w11 := hb_.size); (have hb2 := hbB.trans (hb_.mono (by omega))); (have hS2 := HGS.out _ hb2); (have hSN2 := HGS.out _ (hb2.alloc (by omega) (.cells #[.slice none 0 0, .slice none 0 0, .slice none 0 0, .slice none 0 0] 31))); (have hz_w11 : (w11.alloc (.cells #[.slice none 0 0, .slice none 0 0, .slice none 0 0, .slice none 0 0] 31)).heap.size = w11.heap.size + 1 := alloc_size _ _); (have KN := Lib.hid (KNB.out.below hb_ (by omega))); clear hb_)
                    | (go_at_call 10; refine (impl_DeskLine_act _ _ _ _ _ _ N A tx _ rfl w11 (HE.out.below (HB.out.trans (hb2.mono (by omega)))) (HN.out.below (HB.out.trans (hb2.mono (by omega)))) (ON.out.below hb2 (by omega)) (by omega) hmN HVN.out (by omega) HRT.out).mono ?_; rintro e3 w13 ⟨y0, y1, y2, y3, s3, rfl, hst, o_, hb_⟩; rw [HR.out] at o_ hst; subst hst; obtain ⟨v0, v1, v2, v3, v4, v5, v6, v7, i0, i1, i2, i3⟩ := o_.open; subst i0 i1 i2 i3; (have hs_w13 := hb_.size); (have hb3 := hb2.trans (hb_.mono (by omega))); (have hS3 := HGS.out _ hb3); (have hSN3 := HGS.out _ (hb3.alloc (by omega) (.cells #[.slice none 0 0, .slice none 0 0, .slice none 0 0, .slice none 0 0] 31))); (have hSL := HGS.out _ (hb3.alloc (by omega) (.cells #[(.slice v0 R.first.length v1), (.slice v2 R.goal.length v3), (.slice v4 R.made.length v5), (.slice v6 R.now.length v7)] 31))); (have hS40 := HGS.out _ (Below.outside hb3 (Outside.set4 w10.heap.size w13 (.slice v0 R.first.length v1) (.slice v2 R.goal.length v3) (.slice v4 R.made.length v5) (.slice v6 R.now.length v7)) (by omega) (by omega))); (have hS41 := HGS.out _ (Below.outside hb3 (Outside.set4 w11.heap.size w13 (.slice v0 R.first.length v1) (.slice v2 R.goal.length v3) (.slice v4 R.made.length v5) (.slice v6 R.now.length v7)) (by omega) (by omega))); (try (have kn := KN.out.below hb_ (by omega); have c0 := kn.cell 0; have c1 := kn.cell 1; have c2 := kn.cell 2; have c3 := kn.cell 3; have f0 := kn.free 0; have f1 := kn.free 1; have f2 := kn.free 2; have f3 := kn.free 3; have KM := Lib.hid kn; clear kn)); (have O3 := Lib.hid o_); clear hb_ o_)
                    | (go_at_call 10; refine (impl_DeskLine_act _ _ _ _ _ _ N A tx _ rfl (w11.alloc (.cells #[.slice none 0 0, .slice none 0 0, .slice none 0 0, .slice none 0 0] 31)) (HE.out.below (HB.out.trans ((hb2.alloc (by omega) _).mono (by omega)))) (HN.out.below (HB.out.trans ((hb2.alloc (by omega) _).mono (by omega)))) (ON.out.below (hb2.alloc (by omega) _) (by omega)) (by omega) hmN HVN.out (by omega) HRT.out).mono ?_; rintro e3 w13 ⟨y0, y1, y2, y3, s3, rfl, hst, o_, hb_⟩; rw [HR.out] at o_ hst; subst hst; obtain ⟨v0, v1, v2, v3, v4, v5, v6, v7, i0, i1, i2, i3⟩ := o_.open; subst i0 i1 i2 i3; (have hs_w13 := hb_.size); (have hb3 := (hb2.alloc (by omega) _).trans (hb_.mono (by omega))); (have hS3 := HGS.out _ hb3); (have hSN3 := HGS.out _ (hb3.alloc (by omega) (.cells #[.slice none 0 0, .slice none 0 0, .slice none 0 0, .slice none 0 0] 31))); (have hSL := HGS.out _ (hb3.alloc (by omega) (.cells #[(.slice v0 R.first.length v1), (.slice v2 R.goal.length v3), (.slice v4 R.made.length v5), (.slice v6 R.now.length v7)] 31))); (have hS40 := HGS.out _ (Below.outside hb3 (Outside.set4 w10.heap.size w13 (.slice v0 R.first.length v1) (.slice v2 R.goal.length v3) (.slice v4 R.made.length v5) (.slice v6 R.now.length v7)) (by omega) (by omega))); (have hS41 := HGS.out _ (Below.outside hb3 (Outside.set4 w11.heap.size w13 (.slice v0 R.first.length v1) (.slice v2 R.goal.length v3) (.slice v4 R.made.length v5) (.slice v6 R.now.length v7)) (by omega) (by omega))); (have kn := (Blk.new w11 (.cells #[.slice none 0 0, .slice none 0 0, .slice none 0 0, .slice none 0 0] 31)).below hb_ (by omega)); (have c0 := kn.cell 0; have c1 := kn.cell 1; have c2 := kn.cell 2; have c3 := kn.cell 3; have f0 := kn.free 0; have f1 := kn.free 1; have f2 := kn.free 2; have f3 := kn.free 3; have KM := Lib.hid kn; clear kn); (have O3 := Lib.hid o_); clear hb_ o_))
                  all_goals (
                    go_wp2_with fail
                    go_meet
                    first
                      | exact ⟨_, _, _, _, _, _, _, rfl, rfl, Lib.hid ⟨Blk.new w13 _, O3.out.below ((Below.refl _ _).alloc (Nat.le_refl _) _) (by omega), by simp only [alloc_size]; omega, by omega, by omega, by omega, hb3.alloc (by omega) _⟩⟩
                      | exact ⟨_, _, _, _, _, _, _, rfl, rfl, Lib.hid ⟨KM.out.set4 _ _ _ _, O3.out.outside (Outside.set4 _ _ _ _ _ _) (.inr (by omega)), by have hz0_ := (Outside.set4 w10.heap.size w13 (.slice v0 R.first.length v1) (.slice v2 R.goal.length v3) (.slice v4 R.made.length v5) (.slice v6 R.now.length v7)).size; have hz1_ := (Outside.set4 w11.heap.size w13 (.slice v0 R.first.length v1) (.slice v2 R.goal.length v3) (.slice v4 R.made.length v5) (.slice v6 R.now.length v7)).size; omega, by omega, by omega, by omega, Below.outside hb3 (Outside.set4 _ _ _ _ _ _) (by omega) (by omega)⟩⟩)
                case rest =>
                  obtain ⟨gn, x0, x1, x2, x3, ln_, hn_, rfl, rfl, HQ⟩ := hcut
                  obtain ⟨w12, rfl⟩ : ∃ x_, x_ = wc := ⟨_, rfl⟩
                  have KN := Lib.hid HQ.out.1
                  have OR := Lib.hid HQ.out.2.1
                  obtain ⟨z1_, z2_, z3_, z4_, h_b⟩ := HQ.out.2.2
                  have hs12 := h_b.size
                  clear HQ
                  replace HB := Lib.hid (HB.out.trans (h_b.mono (by omega)))
                  replace SA := Lib.hid (SlA.below SA.out h_b (by omega))
                  replace OD := Lib.hid (OD.out.below h_b (by omega))
                  replace KD := Lib.hid (KD.out.below h_b (by omega))
                  replace KW := Lib.hid (KW.out.below h_b (by omega))
                  obtain ⟨v0, v1, v2, v3, v4, v5, v6, v7, rfl, rfl, rfl, rfl⟩ := OR.out.open
                  clear h_b q0 q1 q2 q3 q4 ON
                  have c0 := KN.out.cell 0
                  have c1 := KN.out.cell 1
                  have c2 := KN.out.cell 2
                  have c3 := KN.out.cell 3
                  have f0 := KW.out.free 0
                  have f1 := KW.out.free 1
                  have f2 := KW.out.free 2
                  have f3 := KW.out.free 3
                  have k0 := KW.out.cell 0
                  have k1 := KW.out.cell 1
                  have k2 := KW.out.cell 2
                  have k3 := KW.out.cell 3
                  obtain ⟨wz, hwz⟩ : ∃ wz, wz = (((w12.setCell ⟨gd + 1, 0, none⟩ (.slice v0 R.first.length v1)).setCell ⟨gd + 1, 1, none⟩ (.slice v2 R.goal.length v3)).setCell ⟨gd + 1, 2, none⟩ (.slice v4 R.made.length v5)).setCell ⟨gd + 1, 3, none⟩ (.slice v6 R.now.length v7) := ⟨_, rfl⟩
                  have KZ := KW.out.set4 (.slice v0 R.first.length v1) (.slice v2 R.goal.length v3) (.slice v4 R.made.length v5) (.slice v6 R.now.length v7)
                  have hO := Outside.set4 (gd + 1) w12 (.slice v0 R.first.length v1) (.slice v2 R.goal.length v3) (.slice v4 R.made.length v5) (.slice v6 R.now.length v7)
                  rw [← hwz] at KZ hO
                  have hsz := hO.size
                  have HWZ := Lib.hid hwz
                  have HKZ := Lib.hid KZ
                  have HOZ := Lib.hid hO
                  clear hwz KZ hO
                  have hok1 : okS true = ⟨#[111, 107]⟩ := rfl
                  have hok2 : okS false = ⟨#[110, 111]⟩ := rfl
                  cases t
                  all_goals (
                    simp only [hok1, hok2]
                    go_wp2_with fail
                    simp only [← HWZ.out]
                    go_roundw
                    case rel => exact ⟨k + 1, _, _, _, _, ln_, hn_, by omega, by go_num, by omega, by omega, .inr (by omega), Lib.hid ⟨HKZ.out, by rw [HRN.out]; exact OR.out.at.outside HOZ.out (.inr (by omega)), KD.out.outside HOZ.out (.inl (by omega)), OD.out.outside HOZ.out (.inl (by omega)), SlA.outside SA.out HOZ.out (.inl (by omega)), Below.outside HB.out HOZ.out (by omega) (by omega)⟩⟩
                    case measure => simp [intOf]; omega)
              · obtain rfl : acts.length = k := by omega
                have hkd2 : decide ((acts.length : Int) < (acts.length : Int)) = false := by simp
                rw [List.take_length] at HNN
                go_wp2_with fail
                refine (impl_DeskRun _ _ _ _ _ _ _ _ _ D acts _ (HE.out.below HB.out) OD.out (by omega) (by omega) SA.out (by omega)).mono ?_
                rintro e w40a ⟨t0, t1, t2, t3, nn, rfl, o_, hn_, hb⟩
                clear hn_
                obtain ⟨Q, hQ⟩ : ∃ Q, Q = (deskRun D acts).1 := ⟨_, rfl⟩
                have hQs : Q.size ≤ 1048576 := by rw [hQ]; exact Nat.le_trans (deskRun_size' D acts) (by omega)
                rw [← hQ] at o_
                have HQ := Lib.hid hQ
                clear hQ
                obtain ⟨z0, z1, z2, z3, z4, z5, z6, z7, rfl, rfl, rfl, rfl, _⟩ := o_.at.shapes
                have OQ := Lib.hid o_.at
                have hs40a := hb.size
                replace OD := Lib.hid (OD.out.below hb (by omega))
                replace KD := Lib.hid (KD.out.below hb (by omega))
                replace KW := Lib.hid (KW.out.below hb (by omega))
                replace ON := Lib.hid (ON.out.below hb (by omega))
                replace SA := Lib.hid (SlA.below SA.out hb (by omega))
                replace HB := Lib.hid (HB.out.trans (hb.mono (by omega)))
                clear hb o_ c0 c1 c2 c3
                obtain ⟨w40b, hw_⟩ : ∃ w_, w_ = w40a.alloc (.cells #[(.slice z0 Q.first.length z1), (.slice z2 Q.goal.length z3), (.slice z4 Q.made.length z5), (.slice z6 Q.now.length z7)] 31) := ⟨_, rfl⟩
                obtain ⟨hb, KQ_, hs40b⟩ := box_facts2 hw_
                have KQ := Lib.hid KQ_
                replace OD := Lib.hid (OD.out.below hb (by omega))
                replace KD := Lib.hid (KD.out.below hb (by omega))
                replace KW := Lib.hid (KW.out.below hb (by omega))
                replace ON := Lib.hid (ON.out.below hb (by omega))
                replace OQ := Lib.hid (OQ.out.below hb (by omega))
                replace SA := Lib.hid (SlA.below SA.out hb (by omega))
                replace HB := Lib.hid (HB.out.trans (hb.mono (by omega)))
                clear hb KQ_
                have HW_ := Lib.hid hw_
                clear hw_
                obtain ⟨gq, hgq⟩ : ∃ g_, g_ = w40a.heap.size := ⟨_, rfl⟩
                rw [← hgq] at KQ
                have HGQ := Lib.hid hgq
                have hgq1 : gq < w40b.heap.size := by omega
                clear hgq
                go_upto_region 24 with fail
                simp only [← HW_.out, ← HGQ.out]
                clear HW_ HGQ
                have bd_ : Below w40b.heap.size w40b w40b.drew := Below.drew (Below.refl _ _)
                have hdz_ : w40b.drew.heap.size = w40b.heap.size := rfl
                replace OD := Lib.hid (OD.out.below bd_ (by omega))
                replace KD := Lib.hid (KD.out.below bd_ (by omega))
                replace KW := Lib.hid (KW.out.below bd_ (by omega))
                replace ON := Lib.hid (ON.out.below bd_ (by omega))
                replace OQ := Lib.hid (OQ.out.below bd_ (by omega))
                replace KQ := Lib.hid (KQ.out.below bd_ (by omega))
                replace SA := Lib.hid (SlA.below SA.out bd_ (by omega))
                replace HB := Lib.hid (HB.out.trans (bd_.mono (by omega)))
                clear bd_
                have m1 : decide ((n : Int) ≤ (l.length : Int)) = true := by simp; omega
                have m2 : (n : Int) ≤ (l.length : Int) := by omega
                have m3 : (0 : Int) ≤ (n : Int) := by omega
                have m4 := extM l 0 n
                simp only [List.drop_zero, Nat.sub_zero] at m4
                have m5 : decide ((acts.length : Int) > 40) = false := by simp; omega
                have s00 := KD.out.cell 0
                have s01 := KD.out.cell 1
                have s02 := KD.out.cell 2
                have s03 := KD.out.cell 3
                have s10 := KW.out.cell 0
                have s11 := KW.out.cell 1
                have s12 := KW.out.cell 2
                have s13 := KW.out.cell 3
                have s20 := KQ.out.cell 0
                have s21 := KQ.out.cell 1
                have s22 := KQ.out.cell 2
                have s23 := KQ.out.cell 3
                have hQN : Q = N := by rw [HQ.out, HNN.out, deskRun_valid' HV.out hal]
                subst hQN
                go_region_held3 (fun w' => w'.cell? ⟨gd, 0, none⟩ = some (.slice p0 D.first.length p1) ∧ w'.cell? ⟨gd, 1, none⟩ = some (.slice p2 D.goal.length p3) ∧ w'.cell? ⟨gd, 2, none⟩ = some (.slice p4 D.made.length p5) ∧ w'.cell? ⟨gd, 3, none⟩ = some (.slice p6 D.now.length p7) ∧ w'.cell? ⟨gd + 1, 0, none⟩ = some (.slice u0 Q.first.length u1) ∧ w'.cell? ⟨gd + 1, 1, none⟩ = some (.slice u2 Q.goal.length u3) ∧ w'.cell? ⟨gd + 1, 2, none⟩ = some (.slice u4 Q.made.length u5) ∧ w'.cell? ⟨gd + 1, 3, none⟩ = some (.slice u6 Q.now.length u7) ∧ w'.cell? ⟨gq, 0, none⟩ = some (.slice z0 Q.first.length z1) ∧ w'.cell? ⟨gq, 1, none⟩ = some (.slice z2 Q.goal.length z3) ∧ w'.cell? ⟨gq, 2, none⟩ = some (.slice z4 Q.made.length z5) ∧ w'.cell? ⟨gq, 3, none⟩ = some (.slice z6 Q.now.length z7)) (first | with_reducible assumption | go_keep) (first
                  | ((have g_ := HBc); go_at_call 15; refine (alive_any _).mono ?_; rintro e9 _ ⟨rfl, rfl⟩; clear g_)
                  | ((have g_ := HBb); go_at_call 14; refine (sameDesk_eq _ _ _ _ _ _ _ _ _ _ _ _ Q _ ONb.out OQb.out (by omega) (by omega) hQs).mono ?_; rintro e8 w40e ⟨rfl, h_⟩; (have hs_w40e := h_.size); (have KDc := Lib.hid (KDb.out.below h_ (by omega))); (have KWc := Lib.hid (KWb.out.below h_ (by omega))); (have KQc := Lib.hid (KQb.out.below h_ (by omega))); (have ODc := Lib.hid (ODb.out.below h_ (by omega))); (have OQc := Lib.hid (OQb.out.below h_ (by omega))); (have ONc := Lib.hid (ONb.out.below h_ (by omega))); (have sc00 := KDc.out.cell 0); (have sc01 := KDc.out.cell 1); (have sc02 := KDc.out.cell 2); (have sc03 := KDc.out.cell 3); (have sc10 := KWc.out.cell 0); (have sc11 := KWc.out.cell 1); (have sc12 := KWc.out.cell 2); (have sc13 := KWc.out.cell 3); (have sc20 := KQc.out.cell 0); (have sc21 := KQc.out.cell 1); (have sc22 := KQc.out.cell 2); (have sc23 := KQc.out.cell 3); (have HBc := Lib.hid (HBb.out.trans (h_.mono (by omega)))); clear h_ g_)
                  | ((have g_ := HBa); go_at_call 9; refine (spec_DeskValid _ _ _ _ _ _ D _ ODa.out (by omega) (by omega)).mono ?_; rintro e7 w40d ⟨rfl, h_⟩; rw [HV.out]; (have hs_w40d := h_.size); (have KDb := Lib.hid (KDa.out.below h_ (by omega))); (have KWb := Lib.hid (KWa.out.below h_ (by omega))); (have KQb := Lib.hid (KQa.out.below h_ (by omega))); (have ODb := Lib.hid (ODa.out.below h_ (by omega))); (have OQb := Lib.hid (OQa.out.below h_ (by omega))); (have ONb := Lib.hid (ONa.out.below h_ (by omega))); (have sb00 := KDb.out.cell 0); (have sb01 := KDb.out.cell 1); (have sb02 := KDb.out.cell 2); (have sb03 := KDb.out.cell 3); (have sb10 := KWb.out.cell 0); (have sb11 := KWb.out.cell 1); (have sb12 := KWb.out.cell 2); (have sb13 := KWb.out.cell 3); (have sb20 := KQb.out.cell 0); (have sb21 := KQb.out.cell 1); (have sb22 := KQb.out.cell 2); (have sb23 := KQb.out.cell 3); (have HBb := Lib.hid (HBa.out.trans (h_.mono (by omega)))); clear h_ g_)
                  | (go_at_call 13; refine (impl_JournalText _ _ _ acts _ SA.out (by omega) (by omega)).mono ?_; rintro e6 w40c ⟨rfl, h_⟩; rw [HJT.out]; (have hs_w40c := h_.size); (have KDa := Lib.hid (KD.out.below h_ (by omega))); (have KWa := Lib.hid (KW.out.below h_ (by omega))); (have KQa := Lib.hid (KQ.out.below h_ (by omega))); (have ODa := Lib.hid (OD.out.below h_ (by omega))); (have OQa := Lib.hid (OQ.out.below h_ (by omega))); (have ONa := Lib.hid (ON.out.below h_ (by omega))); (have sa00 := KDa.out.cell 0); (have sa01 := KDa.out.cell 1); (have sa02 := KDa.out.cell 2); (have sa03 := KDa.out.cell 3); (have sa10 := KWa.out.cell 0); (have sa11 := KWa.out.cell 1); (have sa12 := KWa.out.cell 2); (have sa13 := KWa.out.cell 3); (have sa20 := KQa.out.cell 0); (have sa21 := KQa.out.cell 1); (have sa22 := KQa.out.cell 2); (have sa23 := KQa.out.cell 3); (have HBa := Lib.hid (HB.out.trans (h_.mono (by omega)))); clear h_))
                all_goals (
                  go_wp2
                  go_ret
                  exact ⟨rfl, HBc.out⟩)
    · go_enter Tryz.func3, Tryz.ntmps3
      go_wp2
      go_ret
      exact ⟨rfl, Below.refl _ _⟩
  · go_enter Tryz.func3, Tryz.ntmps3
    go_wp2
    go_ret
    exact ⟨rfl, Below.refl _ _⟩
end Go.Proofs.YtipbanhelhidnaaGreatDoor
