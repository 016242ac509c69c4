/-
  Texts of walks and plain lemmas for this seat; no condition.
-/
import Derived.Test.YtplofpdjhelabaaGreatDoorDTold
import Derived.Test.YtplofpdjhelabaaGreatDoorGM
import Derived.Test.YtplofpdjhelabaaGreatDoorGI
import Derived.Test.YtplofpdjhelabaaGreatDoorGJ
import Derived.Test.YtplofpdjhelabaaGreatDoorGO
import Derived.Test.YtplofpdjhelabaaGreatDoorGH
import Derived.Test.YtplofpdjhelabaaGreatDoorGA
import Derived.Deep.RegionHeld3
namespace Go.Proofs.YtplofpdjhelabaaGreatDoor
open Go.RowKit
set_option linter.unusedVariables false

theorem OwnI.free {lo hi n cap g : Nat} {w : World} {xs : List Int} (h : OwnI lo hi 3 w (.slice (some ⟨g, 0, none⟩) n cap) xs) (hn : n = xs.length) (j : Nat) : w.frozen? ⟨g, j, none⟩ = false := by
  subst hn
  exact World.ownsRow.frozenAt h.1 j
theorem OwnI.cellAt {lo hi n cap g : Nat} {w : World} {xs : List Int} (h : OwnI lo hi 3 w (.slice (some ⟨g, 0, none⟩) n cap) xs) (j : Nat) (hj : j < xs.length) : w.cell? ⟨g, j, none⟩ = some (.int .i64 xs[j]) := by
  have := h.sl.cell1 j hj
  rwa [Nat.zero_add] at this
/-- What l20Told leaves: two rows, of which the second one is short. -/
def ToldR (g c : Nat) (w : World) (ve vt : Value) (w' : World) : Prop := (∃ es, OwnI w.heap.size w'.heap.size 3 w' ve es) ∧ (∃ ts, OwnI w.heap.size w'.heap.size 3 w' vt ts ∧ ts.length ≤ 100) ∧ Outside g (g + 1) w w' ∧ Rd g w' (c + 10000)

set_option maxRecDepth 100000 in
set_option maxHeartbeats 6400000 in
theorem l20Told_any (g c : Nat) (w : World) (h : Rd g w c) (hc : c ≤ 1000000) :
    Calls Tryz.prog 29 #[.pointer (some ⟨g, 0, none⟩), .int .i64 5] w (RetVV (ToldR g c w)) := by
  have hg := h.lt
  have HR := Lib.hid h
  clear h
  go_enter Tryz.func29, Tryz.ntmps29
  go_wp2_with fail
  refine (l20Kat_any g _ _ _ _ HR.out (by omega) (by omega) (by omega) (by omega)).mono ?_
  rintro e w1 ⟨ve, rfl, es, oe, le, h_, r_⟩
  have hs1 := h_.size
  have HO := Lib.hid h_
  replace HR := Lib.hid r_
  have OE := Lib.hid oe
  obtain ⟨ea, ec, rfl, _, _⟩ := Sl.shape oe.sl
  clear h_ r_ oe
  go_wp2_with fail
  refine (spec_KatValid _ _ _ es _ OE.out.sl (by omega)).mono ?_
  rintro e w1' ⟨rfl, rfl⟩
  cases hk : katV es with
  | false =>
    go_wp2_with fail
    refine (l20Trace_any g _ 3 12 _ HR.out (by omega) (by omega) (by omega) (by omega)).mono ?_
    rintro e w3 ⟨vt, rfl, ts, ot, hl3, h_, r_⟩
    have hs3 := h_.size
    replace OE := Lib.hid (OE.out.outside h_ (.inr (by omega)))
    replace HO := Lib.hid (HO.out.trans h_)
    replace HR := Lib.hid r_
    clear h_ r_
    obtain ⟨ta, tc, rfl, _, _⟩ := Sl.shape ot.sl
    have OT := Lib.hid ot
    clear ot
    go_wp2
    refine bodyPost_ret (v := .tuple #[.slice ea es.length ec, .slice ta ts.length tc]) (by simp [results, Tryz.results29, go_sem]) rfl ?_
    exact ⟨_, _, rfl, ⟨es, OE.out.lower (by omega) (by omega)⟩, ⟨ts, OT.out.lower (by omega) (by omega), by omega⟩, HO.out, HR.out.mono (by omega)⟩
  | true =>
    obtain ⟨t, hto, htp, _, hts⟩ := katV_tree hk
    have HTP := Lib.hid htp
    clear htp hk
    go_wp2_with fail
    refine (pick_any g _ 3 _ HR.out (by omega)).mono ?_
    rintro e w2 ⟨q2, rfl, i_, h_, r_⟩
    clear i_
    have hs2 := h_.size
    replace OE := Lib.hid (OE.out.outside h_ (.inr (by omega)))
    replace HO := Lib.hid (HO.out.trans h_)
    replace HR := Lib.hid r_
    clear h_ r_
    cases hq2 : q2 == 0
    · go_wp2_with fail
      have hb2 := bdT_all t 2 (by omega)
      have HSE : Hid (SlI w.heap.size w1.heap.size w2 (.slice ea es.length ec) t.post) := Lib.hid (by rw [HTP.out]; exact OE.out.sl)
      refine (l20Of_any g t 2 _ _ _ _ _ HR.out (by omega) (by omega) HSE.out hto hts (by omega) (by omega) (by omega)).mono ?_
      rintro e w3 ⟨vt, rfl, ts, ot, hl3, hodd, h_, r_⟩
      have hs3 := h_.size
      replace OE := Lib.hid (OE.out.outside h_ (.inr (by omega)))
      replace HO := Lib.hid (HO.out.trans h_)
      replace HR := Lib.hid r_
      clear h_ r_ HSE
      obtain ⟨ta, tc, rfl, hnc, hcm, _, hxa⟩ := Own.open ot
      obtain ⟨gt, rfl, hgt1, hgt2⟩ := hxa (by omega)
      unfold maxLen at hcm
      have OT := Lib.hid ot
      clear ot hxa
      by_cases h41 : ts.length ≤ 41
      · have hd41 : decide ((ts.length : Int) > 41) = false := by simp; omega
        go_wp2_with fail
        refine (pick_any g _ 5 _ HR.out (by omega)).mono ?_
        rintro e w4 ⟨q4, rfl, i_, h_, r_⟩
        clear i_
        have hs4 := h_.size
        replace OE := Lib.hid (OE.out.outside h_ (.inr (by omega)))
        replace OT := Lib.hid (OT.out.outside h_ (.inr (by omega)))
        replace HO := Lib.hid (HO.out.trans h_)
        replace HR := Lib.hid r_
        clear h_ r_
        cases hq4 : q4 == 0
        · go_wp2
          refine bodyPost_ret (v := .tuple #[.slice ea es.length ec, .slice (some ⟨gt, 0, none⟩) ts.length tc]) (by simp [results, Tryz.results29, go_sem]) rfl ?_
          exact ⟨_, _, rfl, ⟨es, OE.out.lower (by omega) (by omega)⟩, ⟨ts, OT.out.lower (by omega) (by omega), by omega⟩, HO.out, HR.out.mono (by omega)⟩
        · go_wp2_with fail
          refine (pick_any g _ _ _ HR.out (by omega)).mono ?_
          rintro e w5 ⟨q5, rfl, i_, h_, r_⟩
          obtain ⟨i5a, i5b⟩ := i_.lt (by omega)
          clear i_
          have hs5 := h_.size
          replace OE := Lib.hid (OE.out.outside h_ (.inr (by omega)))
          replace OT := Lib.hid (OT.out.outside h_ (.inr (by omega)))
          replace HO := Lib.hid (HO.out.trans h_)
          replace HR := Lib.hid r_
          clear h_ r_
          obtain ⟨at_, rfl⟩ : ∃ n : Nat, q5 = n := ⟨q5.toNat, by omega⟩
          have j5 : at_ * 2 < ts.length := by omega
          have j5i : (at_ : Int) * 2 < ((ts.length : Nat) : Int) := by omega
          have j5w : IntKind.i64.wrap ((at_ : Int) * 2) = (at_ : Int) * 2 := by simp [IntKind.wrap, IntKind.bits, IntKind.signed]; omega
          have j5n : ((at_ : Int) * 2).toNat = at_ * 2 := by omega
          clear i5a i5b
          go_wp2_with fail
          refine (pick_any g _ 4 _ HR.out (by omega)).mono ?_
          rintro e w6 ⟨q6, rfl, i_, h_, r_⟩
          clear i_
          have hs6 := h_.size
          replace OE := Lib.hid (OE.out.outside h_ (.inr (by omega)))
          replace OT := Lib.hid (OT.out.outside h_ (.inr (by omega)))
          replace HO := Lib.hid (HO.out.trans h_)
          replace HR := Lib.hid r_
          clear h_ r_
          have HP := Lib.hid (OwnI.put OT.out rfl ⟨hgt1, hgt2⟩ (at_ * 2) q6)
          have c6 := OT.out.cellAt (at_ * 2) (by omega)
          have f6 := OT.out.free rfl (at_ * 2)
          have hsp := HP.out.2.size
          go_wp2
          skip
          refine bodyPost_ret (v := .tuple #[.slice ea es.length ec, .slice (some ⟨gt, 0, none⟩) ts.length tc]) (by simp [results, Tryz.results29, go_sem]) rfl ?_
          exact ⟨_, _, rfl, ⟨es, (OE.out.outside HP.out.2 (.inl (by omega))).lower (by omega) (by omega)⟩, ⟨ts.set (at_ * 2) q6, HP.out.1.lower (by omega) (by omega), by rw [List.length_set]; omega⟩, HO.out.fresh HP.out.2 (by omega), (HR.out.outside HP.out.2 (by omega)).mono (by omega)⟩
      · have hd41 : decide ((ts.length : Int) > 41) = true := by simp; omega
        have hl41 : (ts.take 41).length = 41 := by simp; omega
        replace OT := Lib.hid (OwnI.front (m := 41) OT.out rfl (by omega))
        obtain ⟨us, hus⟩ : ∃ us, us = ts.take 41 := ⟨_, rfl⟩
        rw [← hus] at OT hl41
        clear hus
        have hu : us.length % 2 = 1 := by omega
        have hu2 : us.length ≤ 41 := by omega
        have HC := Lib.hid (show (41 : Nat) ≤ tc by omega)
        clear hodd
        go_wp2_with fail
        refine (pick_any g _ 5 _ HR.out (by omega)).mono ?_
        rintro e w4 ⟨q4, rfl, i_, h_, r_⟩
        clear i_
        have hs4 := h_.size
        replace OE := Lib.hid (OE.out.outside h_ (.inr (by omega)))
        replace OT := Lib.hid (OT.out.outside h_ (.inr (by omega)))
        replace HO := Lib.hid (HO.out.trans h_)
        replace HR := Lib.hid r_
        clear h_ r_
        cases hq4 : q4 == 0
        · go_wp2
          refine bodyPost_ret (v := .tuple #[.slice ea es.length ec, .slice (some ⟨gt, 0, none⟩) 41 tc]) (by simp [results, Tryz.results29, go_sem]) rfl ?_
          exact ⟨_, _, rfl, ⟨es, OE.out.lower (by omega) (by omega)⟩, ⟨us, OT.out.lower (by omega) (by omega), by omega⟩, HO.out, HR.out.mono (by omega)⟩
        · go_wp2_with fail
          refine (pick_any g _ _ _ HR.out (by omega)).mono ?_
          rintro e w5 ⟨q5, rfl, i_, h_, r_⟩
          obtain ⟨i5a, i5b⟩ := i_.lt (by omega)
          clear i_
          have hs5 := h_.size
          replace OE := Lib.hid (OE.out.outside h_ (.inr (by omega)))
          replace OT := Lib.hid (OT.out.outside h_ (.inr (by omega)))
          replace HO := Lib.hid (HO.out.trans h_)
          replace HR := Lib.hid r_
          clear h_ r_
          obtain ⟨at_, rfl⟩ : ∃ n : Nat, q5 = n := ⟨q5.toNat, by omega⟩
          have j5 : at_ * 2 < 41 := by omega
          have j5i : (at_ : Int) * 2 < ((41 : Nat) : Int) := by omega
          have j5w : IntKind.i64.wrap ((at_ : Int) * 2) = (at_ : Int) * 2 := by simp [IntKind.wrap, IntKind.bits, IntKind.signed]; omega
          have j5n : ((at_ : Int) * 2).toNat = at_ * 2 := by omega
          clear i5a i5b
          go_wp2_with fail
          refine (pick_any g _ 4 _ HR.out (by omega)).mono ?_
          rintro e w6 ⟨q6, rfl, i_, h_, r_⟩
          clear i_
          have hs6 := h_.size
          replace OE := Lib.hid (OE.out.outside h_ (.inr (by omega)))
          replace OT := Lib.hid (OT.out.outside h_ (.inr (by omega)))
          replace HO := Lib.hid (HO.out.trans h_)
          replace HR := Lib.hid r_
          clear h_ r_
          have HP := Lib.hid (OwnI.put OT.out hl41.symm ⟨hgt1, hgt2⟩ (at_ * 2) q6)
          have c6 := OT.out.cellAt (at_ * 2) (by omega)
          have f6 := OT.out.free hl41.symm (at_ * 2)
          have hsp := HP.out.2.size
          go_wp2
          skip
          refine bodyPost_ret (v := .tuple #[.slice ea es.length ec, .slice (some ⟨gt, 0, none⟩) 41 tc]) (by simp [results, Tryz.results29, go_sem]) rfl ?_
          exact ⟨_, _, rfl, ⟨es, (OE.out.outside HP.out.2 (.inl (by omega))).lower (by omega) (by omega)⟩, ⟨us.set (at_ * 2) q6, HP.out.1.lower (by omega) (by omega), by rw [List.length_set]; omega⟩, HO.out.fresh HP.out.2 (by omega), (HR.out.outside HP.out.2 (by omega)).mono (by omega)⟩
    · go_wp2_with fail
      refine (l20Trace_any g _ 3 12 _ HR.out (by omega) (by omega) (by omega) (by omega)).mono ?_
      rintro e w3 ⟨vt, rfl, ts, ot, hl3, h_, r_⟩
      have hs3 := h_.size
      replace OE := Lib.hid (OE.out.outside h_ (.inr (by omega)))
      replace HO := Lib.hid (HO.out.trans h_)
      replace HR := Lib.hid r_
      clear h_ r_
      obtain ⟨ta, tc, rfl, _, _⟩ := Sl.shape ot.sl
      have OT := Lib.hid ot
      clear ot
      go_wp2
      refine bodyPost_ret (v := .tuple #[.slice ea es.length ec, .slice ta ts.length tc]) (by simp [results, Tryz.results29, go_sem]) rfl ?_
      exact ⟨_, _, rfl, ⟨es, OE.out.lower (by omega) (by omega)⟩, ⟨ts, OT.out.lower (by omega) (by omega), by omega⟩, HO.out, HR.out.mono (by omega)⟩

set_option maxRecDepth 100000 in
set_option maxHeartbeats 1600000 in
theorem DrawTraceBy_any (v : Value) (cs : List Int) (w : World) (h : SlB 0 w.heap.size w v cs) :
    Calls Tryz.prog 9 #[v] w (RetVV fun ve vt w' => ∃ ts : List Int, OwnI 0 w'.heap.size 3 w' vt ts ∧ ts.length ≤ 100 ∧ Below w.heap.size w w') := by
  go_enter Tryz.func9, Tryz.ntmps9
  go_wp2_with fail
  refine (l20Open_any _ cs _ h).mono ?_
  rintro e w1 ⟨_, rfl, g, rfl, hg, hb, hr⟩
  have hs1 := hb.size
  have HB := Lib.hid hb
  have HR := Lib.hid hr
  have hg1 := hr.lt
  clear hr hb h
  go_wp2_with fail
  refine (l20Told_any g 0 _ HR.out (by omega)).mono ?_
  rintro e w2 ⟨ve, vt, rfl, ⟨es, oe⟩, ⟨ts, ot, hl⟩, ho, hr⟩
  have hs2 := ho.size
  replace HB := Lib.hid (Below.outside HB.out ho (by omega) (by omega))
  have OT := Lib.hid (ot.lower (Nat.zero_le _) (Nat.le_refl _))
  obtain ⟨ea, ec, rfl, _, _⟩ := Sl.shape oe.sl
  obtain ⟨ta, tc, rfl, _, _⟩ := Sl.shape ot.sl
  clear oe ot ho hr
  go_wp2
  refine bodyPost_ret (v := .tuple #[.slice ea es.length ec, .slice ta ts.length tc]) (by simp [results, Tryz.results9, go_sem]) rfl ?_
  exact ⟨_, _, rfl, ts, OT.out, hl, HB.out⟩

def RetV3 (P : Value → Value → Value → World → Prop) (e : Ending) (w' : World) : Prop := ∃ a b c, e = .returned (.tuple #[a, b, c]) ∧ P a b c w'
theorem proofV_len' (xs : List Int) (ms : List Mv) : ((proofV xs ms).getD []).length ≤ 40 := by
  cases h : proofV xs ms with
  | none => simp
  | some x => exact (kat_len (proofV_kat h)).2
set_option maxRecDepth 100000 in
set_option maxHeartbeats 3200000 in
theorem DrawProofOk_any (v : Value) (cs : List Int) (w : World) (h : SlB 0 w.heap.size w v cs) :
    Calls Tryz.prog 5 #[v] w (RetV3 fun ve vf vm w' => ∃ (es fs : List Int) (ms : List Mv), SlI 0 w'.heap.size w' ve es ∧ SlI 0 w'.heap.size w' vf fs ∧ SlM 0 w'.heap.size w' vm ms ∧ es.length ≤ 44 ∧ fs.length ≤ 44 ∧ ms.length ≤ 61 ∧ Below w.heap.size w w') := by
  go_enter Tryz.func5, Tryz.ntmps5
  go_wp2_with fail
  refine (l20Open_any _ cs _ h).mono ?_
  rintro e w1 ⟨_, rfl, g, rfl, hg, hb, hr⟩
  have hs1 := hb.size
  have HB := Lib.hid hb
  have HR := Lib.hid hr
  have hg1 := hr.lt
  clear hr hb h
  go_wp2_with fail
  refine (l20Proof_any g 0 _ HR.out (by omega)).mono ?_
  rintro e w2 ⟨ve, vm, rfl, es, ms, hx, hm, hle, hlm, ho, hr⟩
  have hs2 := ho.size
  replace HB := Lib.hid (Below.outside HB.out ho (by omega) (by omega))
  replace HR := Lib.hid hr
  have HX := Lib.hid hx
  have HM := Lib.hid hm
  obtain ⟨ea, ec, rfl, _, _⟩ := Sl.shape hx
  obtain ⟨ma, mc, rfl, _, _⟩ := hm.shape
  clear hx hm ho hr
  go_wp2_with fail
  refine (spec_ProofRun _ _ _ _ _ _ es ms _ HX.out (by omega) HM.out (by omega)).mono ?_
  rintro e w3 ⟨vf, ok, rfl, hb, hok, of_⟩
  have hfl := proofV_len' es ms
  obtain ⟨fs, hfs⟩ : ∃ fs, fs = (proofV es ms).getD [] := ⟨_, rfl⟩
  rw [← hfs] at of_ hfl
  clear hfs hok
  have hs3 := hb.size
  replace HB := Lib.hid (HB.out.trans (hb.mono (by omega)))
  replace HR := Lib.hid (HR.out.below hb (by omega))
  replace HX := Lib.hid (HX.out.below hb (by omega))
  replace HM := Lib.hid (HM.out.below hb (by omega))
  have HF := Lib.hid of_.sl
  obtain ⟨fa, fc, rfl, _, _⟩ := Sl.shape of_.sl
  clear of_ hb
  cases ok with
  | false =>
    go_wp2_with fail
    refine (l20Kat_any g _ 2 9 _ HR.out (by omega) (by omega) (by omega) (by omega)).mono ?_
    rintro e w5 ⟨vk, rfl, ks, ok_, lk, ho, hr⟩
    have hs5 := ho.size
    replace HB := Lib.hid (Below.outside HB.out ho (by omega) (by omega))
    replace HX := Lib.hid (HX.out.outside ho (.inr (by omega)))
    replace HM := Lib.hid (HM.out.outside ho (.inr (by omega)))
    have HK := Lib.hid ok_.sl
    obtain ⟨ka, kc, rfl, _, _⟩ := Sl.shape ok_.sl
    clear ok_ ho hr
    go_wp2
    refine bodyPost_ret (v := .tuple #[.slice ea es.length ec, .slice ka ks.length kc, .slice ma ms.length mc]) (by simp [results, Tryz.results5, go_sem]) rfl ?_
    exact ⟨_, _, _, rfl, es, ks, ms, HX.out.wide (Nat.zero_le _) (by omega), HK.out.wide (Nat.zero_le _) (by omega), HM.out.wide (Nat.zero_le _) (by omega), by omega, by omega, by omega, HB.out⟩
  | true =>
    go_wp2_with fail
    refine (pick_any g _ 5 _ HR.out (by omega)).mono ?_
    rintro e w4 ⟨q, rfl, i_, ho, hr⟩
    clear i_
    have hs4 := ho.size
    replace HB := Lib.hid (Below.outside HB.out ho (by omega) (by omega))
    replace HR := Lib.hid hr
    replace HX := Lib.hid (HX.out.outside ho (.inr (by omega)))
    replace HF := Lib.hid (HF.out.outside ho (.inr (by omega)))
    replace HM := Lib.hid (HM.out.outside ho (.inr (by omega)))
    clear ho hr
    cases hq : q == 0
    · go_wp2
      refine bodyPost_ret (v := .tuple #[.slice ea es.length ec, .slice fa fs.length fc, .slice ma ms.length mc]) (by simp [results, Tryz.results5, go_sem]) rfl ?_
      exact ⟨_, _, _, rfl, es, fs, ms, HX.out.wide (Nat.zero_le _) (by omega), HF.out.wide (Nat.zero_le _) (by omega), HM.out.wide (Nat.zero_le _) (by omega), by omega, by omega, by omega, HB.out⟩
    · go_wp2_with fail
      refine (l20Kat_any g _ 2 9 _ HR.out (by omega) (by omega) (by omega) (by omega)).mono ?_
      rintro e w5 ⟨vk, rfl, ks, ok_, lk, ho, hr⟩
      have hs5 := ho.size
      replace HB := Lib.hid (Below.outside HB.out ho (by omega) (by omega))
      replace HX := Lib.hid (HX.out.outside ho (.inr (by omega)))
      replace HM := Lib.hid (HM.out.outside ho (.inr (by omega)))
      have HK := Lib.hid ok_.sl
      obtain ⟨ka, kc, rfl, _, _⟩ := Sl.shape ok_.sl
      clear ok_ ho hr
      go_wp2
      refine bodyPost_ret (v := .tuple #[.slice ea es.length ec, .slice ka ks.length kc, .slice ma ms.length mc]) (by simp [results, Tryz.results5, go_sem]) rfl ?_
      exact ⟨_, _, _, rfl, es, ks, ms, HX.out.wide (Nat.zero_le _) (by omega), HK.out.wide (Nat.zero_le _) (by omega), HM.out.wide (Nat.zero_le _) (by omega), by omega, by omega, by omega, HB.out⟩
end Go.Proofs.YtplofpdjhelabaaGreatDoor
