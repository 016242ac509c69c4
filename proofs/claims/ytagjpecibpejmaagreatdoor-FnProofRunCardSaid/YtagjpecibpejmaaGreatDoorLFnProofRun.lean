/-
  Texts of walks and plain lemmas for this seat; no condition.
-/
import Derived.Test.YtagjpecibpejmaaGreatDoorDProof
import Derived.Test.YtagjpecibpejmaaGreatDoorHasInt
import Derived.Test.YtagjpecibpejmaaGreatDoorLawP
import Derived.Test.YtagjpecibpejmaaGreatDoorMadeBy
import Derived.Test.YtagjpecibpejmaaGreatDoorSame
import Derived.Test.YtagjpecibpejmaaGreatDoorSame2
import Derived.Test.YtagjpecibpejmaaGreatDoorAlive
namespace Go.Proofs.YtagjpecibpejmaaGreatDoor
open Go.RowKit

theorem SlM.dropM {lo hi n cap b off : Nat} {w : World} {xs : List Mv} (h : SlM lo hi w (.slice (some ⟨b, off, none⟩) n cap) xs) (k : Nat) (hk : k ≤ xs.length) : SlM lo hi w (.slice (some ⟨b, off + k * 3, none⟩) (xs.length - k) (cap - k)) (xs.drop k) := by
  obtain ⟨a', cap', e, h1, h2, h3, h4, h5⟩ := h
  injection e with e1 e2 e3
  subst e1 e2 e3
  have hl : (xs.drop k).length = xs.length - k := by simp
  have hxs : mvs xs = mvs (xs.take k) ++ mvs (xs.drop k) := by rw [← mvs_append, List.take_append_drop]
  have htl : (mvs (xs.take k)).length = k * 3 := by rw [mvs_length]; simp; omega
  refine ⟨_, _, by rw [hl], by rw [hl]; omega, by omega, mvs_length _, (by intro h; cases h), fun i hi' => ?_⟩
  rw [mvs_length, hl] at hi'
  have hml := mvs_length xs
  obtain ⟨b', off', f1, f2, f3, f4, f5⟩ := h5 (k * 3 + i) (by omega)
  injection f1 with f1
  injection f1 with f1 f1'
  subst f1 f1'
  refine ⟨b, off + k * 3, rfl, f2, f3, f4, ?_⟩
  rw [show off + k * 3 + i = off + (k * 3 + i) by omega, f5, hxs, List.getElem?_append_right (by omega), htl]
  congr 1
  omega
theorem SlM.empty (lo hi : Nat) (w : World) (a : Option Addr) (cap : Nat) (h : cap ≤ maxLen) (h2 : a = none → cap = 0) : SlM lo hi w (.slice a 0 cap) [] :=
  ⟨a, cap, rfl, Nat.zero_le _, h, rfl, h2, fun i hi => by simp [mvs] at hi⟩

set_option maxHeartbeats 1600000 in
theorem DrawProofRun_any (v : Value) (cs : List Int) (w : World) (h : SlB 0 w.heap.size w v cs) :
    Calls Tryz.prog 16 #[v] w (RetVV fun ve vm w' => ∃ (es : List Int) (ms : List Mv), SlI 0 w'.heap.size w' ve es ∧ SlM 0 w'.heap.size w' vm ms ∧ es.length ≤ 44 ∧ ms.length ≤ 61 ∧ Below w.heap.size w w') := by
  go_enter Tryz.func16, Tryz.ntmps16
  go_wp2_with fail
  refine (l20Open_any _ cs _ h).mono ?_
  rintro e w1 ⟨_, rfl, g, rfl, hg, hb, hr⟩
  have HB := Lib.hid hb
  have HR := Lib.hid hr
  have hs1 := hb.size
  have hg1 := hr.lt
  clear hr hb h
  go_wp2_with fail
  refine (l20Proof_any g 0 _ HR.out (by omega)).mono ?_
  rintro e w2 ⟨v2, v3, rfl, xs, ms, hx, hms, hl, hl2, ho, hr⟩
  replace HB := Lib.hid (Below.outside HB.out ho (by omega) (by omega))
  have HX := Lib.hid hx
  have HM := Lib.hid hms
  have hs2 := ho.size
  clear hx hms ho hr
  go_wp2
  go_ret2
  exact ⟨_, _, rfl, xs, ms, HX.out.wide (Nat.zero_le _) (Nat.le_refl _), HM.out.wide (Nat.zero_le _) (Nat.le_refl _), hl, hl2, HB.out⟩

set_option maxRecDepth 100000 in
set_option maxHeartbeats 6400000 in
theorem law_FnProofRun (v : Value) (cs : List Int) (w : World) (hx : SlB 0 w.heap.size w v cs) (hE : EnvK w) :
    Calls Tryz.prog 4 #[v] w fun e w' => e = .returned (.bool true) ∧ Below w.heap.size w w' := by
  have HX := Lib.hid hx
  have HE := Lib.hid hE
  obtain ⟨⟨a, cap, rfl, hcap, hcm, _⟩, _⟩ := hx
  unfold maxLen at hcm
  clear hE
  by_cases hm : cs.length ≤ 1048576
  · go_enter Tryz.func4, Tryz.ntmps4
    go_wp2_with fail
    refine (DrawProofRun_any _ cs _ HX.out).mono ?_
    rintro e w1 ⟨v1, v2, rfl, xs, ms, h1, h2, hl, hml, hb⟩
    have HB := Lib.hid hb
    have hs1 := hb.size
    replace HX := Lib.hid h1
    have HM := Lib.hid h2
    obtain ⟨xa, xc, rfl, _, _⟩ := Sl.shape h1
    obtain ⟨ma, mc, rfl, hmc1, hmc2⟩ := h2.shape
    unfold maxLen at hmc2
    clear hb h1 h2
    obtain ⟨r, hr⟩ : ∃ r, proofV xs ms = r := ⟨_, rfl⟩
    have HPR := Lib.hid hr
    have HI := Lib.hid (impl_ProofRun _ _ _ _ _ _ xs ms w1 (HE.out.below HB.out) HX.out (by omega) HM.out (by omega))
    have HS : Hid (∀ wx, SlI 0 w1.heap.size wx (.slice xa xs.length xc) xs → SlM 0 w1.heap.size wx (.slice ma ms.length mc) ms → Calls Tryz.prog 18 #[.slice xa xs.length xc, .slice ma ms.length mc] wx (RetVB (MoveR wx (proofV xs ms)))) := Lib.hid (fun wx h h' => spec_ProofRun _ _ _ _ _ _ xs ms wx h (by omega) h' (by omega))
    rw [hr] at HI HS
    clear hr
    obtain ⟨out, hout⟩ : ∃ out, r.getD [] = out := ⟨_, rfl⟩
    have hol : out.length ≤ 40 := by
      rw [← hout]
      cases h : r with
      | none => simp
      | some x => exact (kat_len (proofV_kat (HPR.out.trans h))).2
    have HOU := Lib.hid hout
    clear hout
    obtain ⟨t, ht⟩ : ∃ t, t = r.isSome := ⟨_, rfl⟩
    have HT := Lib.hid ht
    have htt : (t != t) = false := by simp
    clear ht
    go_wp2_with fail
    refine (HI.out).mono ?_
    rintro e w2 ⟨v3, ok, rfl, h_, hok, o_⟩
    rw [← HT.out] at hok
    obtain rfl : t = ok := hok.symm
    rw [HOU.out] at o_
    have hs2 := h_.size
    replace HX := Lib.hid (HX.out.below h_ (Nat.le_refl _))
    replace HM := Lib.hid (HM.out.below h_ (Nat.le_refl _))
    replace HB := Lib.hid (HB.out.trans (h_.mono (by omega)))
    have OI := Lib.hid o_.sl
    obtain ⟨ia, ic, rfl, _⟩ := Own.open o_
    clear h_ o_ hok HI
    go_wp2_with fail
    refine (HS.out w2 HX.out HM.out).mono ?_
    rintro e w3 ⟨v4, ok, rfl, h_, hok, o_⟩
    rw [← HT.out] at hok
    obtain rfl : t = ok := hok.symm
    rw [HOU.out] at o_
    have hs3 := h_.size
    replace HX := Lib.hid (HX.out.below h_ (by omega))
    replace HM := Lib.hid (HM.out.below h_ (by omega))
    replace OI := Lib.hid (OI.out.below h_ (by omega))
    replace HB := Lib.hid (HB.out.trans (h_.mono (by omega)))
    have OS := Lib.hid o_.sl
    obtain ⟨ja, jc, rfl, _⟩ := Own.open o_
    clear h_ o_ hok HS
    go_wp2_with fail
    refine (sameInts_same _ _ _ _ _ _ out _ OI.out OS.out (by omega)).mono ?_
    rintro e w4 ⟨rfl, h_⟩
    have hs4 := h_.size
    replace HX := Lib.hid (HX.out.below h_ (by omega))
    replace HM := Lib.hid (HM.out.below h_ (by omega))
    replace OI := Lib.hid (OI.out.below h_ (by omega))
    replace HB := Lib.hid (HB.out.trans (h_.mono (by omega)))
    clear h_ OS
    cases r with
    | none =>
      obtain rfl : t = false := HT.out
      obtain rfl : out = [] := HOU.out.symm
      go_wp2_with fail
      refine (alive_any _).mono ?_
      rintro e _ ⟨rfl, rfl⟩
      go_wp2
      go_ret
      exact ⟨rfl, HB.out⟩
    | some x =>
      obtain rfl : t = true := HT.out
      obtain rfl : x = out := HOU.out
      obtain ⟨h, hh, hh1, hh2⟩ : ∃ h : Nat, h = ms.length / 2 ∧ h ≤ ms.length ∧ (ms.length : Int) / 2 = (h : Int) := ⟨_, rfl, by omega, by omega⟩
      obtain ⟨y, hy1, hy2⟩ := proofV_parts HPR.out h
      have HY1 := Lib.hid hy1
      have HY2 := Lib.hid hy2
      have HKX := Lib.hid (proofV_kat HPR.out)
      have hyl := (kat_len (proofV_kat hy1)).2
      clear hy1 hy2
      have hdl : (ms.drop h).length ≤ 61 := by simp; omega
      have htl : (ms.take h).length ≤ 61 := by simp; omega
      have MF := Lib.hid (SlM.front HM.out h hh1)
      have fin : ∀ (wx : World) (va : Value), Below w4.heap.size w4 wx → True := fun _ _ _ => trivial
      clear fin
      have hsplit : (ms.length = 0 ∧ h = 0) ∨ (∃ b off, ma = some ⟨b, off, none⟩ ∧ ¬ mc = h) := by
        by_cases h0 : ms.length = 0
        · exact .inl ⟨h0, by omega⟩
        · obtain ⟨b, off, e, _⟩ := HM.out.get 0 (by omega)
          exact .inr ⟨b, off, e, by omega⟩
      have g1 : (0 : Int) ≤ h := by omega
      have g2 : (h : Int) ≤ mc := by omega
      have g3 : h ≤ mc := by omega
      have g4 : (h : Int) ≤ ms.length := by omega
      clear hh
      rcases hsplit with ⟨h0, rfl⟩ | ⟨b, off, rfl, hne⟩
      · obtain rfl : ms = [] := List.eq_nil_of_length_eq_zero h0
        have ME0 : Hid (∀ wx a, SlM 0 w1.heap.size wx (.slice a 0 0) []) := Lib.hid (fun wx a => SlM.empty _ _ _ _ _ (Nat.zero_le _) (fun _ => rfl))
        have MES : Hid (∀ wx ad c, c ≤ 9223372036854775807 → SlM 0 w1.heap.size wx (.slice (some ad) 0 c) []) := Lib.hid (fun wx ad c hc => SlM.empty _ _ _ _ _ (by unfold maxLen; exact hc) (by intro h; cases h))
        by_cases hc0 : mc = 0
        · subst hc0
          go_wp2_with fail
          refine (impl_ProofRun _ _ _ _ _ _ xs [] w4 (HE.out.below HB.out) HX.out (by omega) (by first | exact ME0.out _ _ | exact MES.out _ _ _ (by omega)) (by simp)).mono ?_
          rintro e w5 ⟨v5, ok, rfl, h_, hok, o_⟩
          rw [show proofV xs [] = some y from HY1.out] at hok o_
          obtain rfl : true = ok := hok.symm
          have hs5 := h_.size
          replace OI := Lib.hid (OI.out.below h_ (by omega))
          replace HB := Lib.hid (HB.out.trans (h_.mono (by omega)))
          have OY := Lib.hid (show SlI _ _ w5 v5 y from Own.sl o_)
          obtain ⟨ya, yc, rfl, _, _⟩ := Sl.shape OY.out
          clear h_ o_ hok
          go_wp2_with fail
          refine (impl_ProofRun _ _ _ _ _ _ y [] w5 (HE.out.below HB.out) OY.out (by omega) (by first | exact ME0.out _ _ | exact MES.out _ _ _ (by omega)) (by simp)).mono ?_
          rintro e w6 ⟨v6, ok, rfl, h_, hok, o_⟩
          rw [show proofV y [] = some x from HY2.out] at hok o_
          obtain rfl : true = ok := hok.symm
          have hs6 := h_.size
          replace OI := Lib.hid (OI.out.below h_ (by omega))
          replace HB := Lib.hid (HB.out.trans (h_.mono (by omega)))
          have OZ := Lib.hid (show SlI _ _ w6 v6 x from Own.sl o_)
          obtain ⟨za, zc, rfl, _, _⟩ := Sl.shape OZ.out
          clear h_ o_ hok
          go_wp2_with fail
          refine (sameInts_same _ _ _ _ _ _ x _ OZ.out OI.out (by omega)).mono ?_
          rintro e w7 ⟨rfl, h_⟩
          have hs7 := h_.size
          replace OI := Lib.hid (OI.out.below h_ (by omega))
          replace HB := Lib.hid (HB.out.trans (h_.mono (by omega)))
          clear h_
          go_wp2_with fail
          refine (impl_KatValid _ _ _ x _ OI.out (by omega)).mono ?_
          rintro e _ ⟨rfl, rfl⟩
          rw [HKX.out]
          go_wp2
          go_ret
          exact ⟨rfl, HB.out⟩
        · cases ma with
          | none =>
            obtain ⟨_, _, e, _, _, _, hz, _⟩ := HM.out
            injection e with e1 _ e3
            exact absurd (e3.trans (hz e1.symm)) hc0
          | some ad =>
            go_wp2_with fail
            refine (impl_ProofRun _ _ _ _ _ _ xs [] w4 (HE.out.below HB.out) HX.out (by omega) (by first | exact ME0.out _ _ | exact MES.out _ _ _ (by omega)) (by simp)).mono ?_
            rintro e w5 ⟨v5, ok, rfl, h_, hok, o_⟩
            rw [show proofV xs [] = some y from HY1.out] at hok o_
            obtain rfl : true = ok := hok.symm
            have hs5 := h_.size
            replace OI := Lib.hid (OI.out.below h_ (by omega))
            replace HB := Lib.hid (HB.out.trans (h_.mono (by omega)))
            have OY := Lib.hid (show SlI _ _ w5 v5 y from Own.sl o_)
            obtain ⟨ya, yc, rfl, _, _⟩ := Sl.shape OY.out
            clear h_ o_ hok
            go_wp2_with fail
            refine (impl_ProofRun _ _ _ _ _ _ y [] w5 (HE.out.below HB.out) OY.out (by omega) (by first | exact ME0.out _ _ | exact MES.out _ _ _ (by omega)) (by simp)).mono ?_
            rintro e w6 ⟨v6, ok, rfl, h_, hok, o_⟩
            rw [show proofV y [] = some x from HY2.out] at hok o_
            obtain rfl : true = ok := hok.symm
            have hs6 := h_.size
            replace OI := Lib.hid (OI.out.below h_ (by omega))
            replace HB := Lib.hid (HB.out.trans (h_.mono (by omega)))
            have OZ := Lib.hid (show SlI _ _ w6 v6 x from Own.sl o_)
            obtain ⟨za, zc, rfl, _, _⟩ := Sl.shape OZ.out
            clear h_ o_ hok
            go_wp2_with fail
            refine (sameInts_same _ _ _ _ _ _ x _ OZ.out OI.out (by omega)).mono ?_
            rintro e w7 ⟨rfl, h_⟩
            have hs7 := h_.size
            replace OI := Lib.hid (OI.out.below h_ (by omega))
            replace HB := Lib.hid (HB.out.trans (h_.mono (by omega)))
            clear h_
            go_wp2_with fail
            refine (impl_KatValid _ _ _ x _ OI.out (by omega)).mono ?_
            rintro e _ ⟨rfl, rfl⟩
            rw [HKX.out]
            go_wp2
            go_ret
            exact ⟨rfl, HB.out⟩
      · have MD := Lib.hid (SlM.dropM HM.out h hh1)
        go_wp2_with fail
        refine (impl_ProofRun _ _ _ _ _ _ xs (ms.take h) w4 (HE.out.below HB.out) HX.out (by omega) MF.out (by omega)).mono ?_
        rintro e w5 ⟨v5, ok, rfl, h_, hok, o_⟩
        rw [HY1.out] at hok o_
        obtain rfl : true = ok := hok.symm
        have hs5 := h_.size
        replace OI := Lib.hid (OI.out.below h_ (by omega))
        replace MD := Lib.hid (MD.out.below h_ (by omega))
        replace HB := Lib.hid (HB.out.trans (h_.mono (by omega)))
        have OY := Lib.hid (show SlI _ _ w5 v5 y from Own.sl o_)
        obtain ⟨ya, yc, rfl, _, _⟩ := Sl.shape OY.out
        clear h_ o_ hok
        go_wp2_with fail
        refine (impl_ProofRun _ _ _ _ _ _ y (ms.drop h) w5 (HE.out.below HB.out) OY.out (by omega) MD.out (by omega)).mono ?_
        rintro e w6 ⟨v6, ok, rfl, h_, hok, o_⟩
        rw [HY2.out] at hok o_
        obtain rfl : true = ok := hok.symm
        have hs6 := h_.size
        replace OI := Lib.hid (OI.out.below h_ (by omega))
        replace HB := Lib.hid (HB.out.trans (h_.mono (by omega)))
        have OZ := Lib.hid (show SlI _ _ w6 v6 x from Own.sl o_)
        obtain ⟨za, zc, rfl, _, _⟩ := Sl.shape OZ.out
        clear h_ o_ hok
        go_wp2_with fail
        refine (sameInts_same _ _ _ _ _ _ x _ OZ.out OI.out (by omega)).mono ?_
        rintro e w7 ⟨rfl, h_⟩
        have hs7 := h_.size
        replace OI := Lib.hid (OI.out.below h_ (by omega))
        replace HB := Lib.hid (HB.out.trans (h_.mono (by omega)))
        clear h_
        go_wp2_with fail
        refine (impl_KatValid _ _ _ x _ OI.out (by omega)).mono ?_
        rintro e _ ⟨rfl, rfl⟩
        rw [HKX.out]
        go_wp2
        go_ret
        exact ⟨rfl, HB.out⟩
  · go_enter Tryz.func4, Tryz.ntmps4
    go_wp2
    go_ret
    exact ⟨rfl, Below.refl _ _⟩
end Go.Proofs.YtagjpecibpejmaaGreatDoor
