/-
  Texts of walks and plain lemmas for this seat; no condition.
-/
import Derived.Test.YtplofpdjhelabaaGreatDoorDPOk
import Derived.Test.YtplofpdjhelabaaGreatDoorITraces
import Derived.Test.YtplofpdjhelabaaGreatDoorITraceBy
import Derived.Test.YtplofpdjhelabaaGreatDoorByP
import Derived.Test.YtplofpdjhelabaaGreatDoorIDiffer
import Derived.Test.YtplofpdjhelabaaGreatDoorGI
import Derived.Test.YtplofpdjhelabaaGreatDoorGO
import Derived.Test.YtplofpdjhelabaaGreatDoorGH
import Derived.Test.YtplofpdjhelabaaGreatDoorGN
import Derived.Deep.RegionHeldLaw
import Derived.Deep.RegionHeld3
import Derived.Deep.DeepCutAuto
import Derived.Deep.DrawnRows
namespace Go.Proofs.YtplofpdjhelabaaGreatDoor
open Go.RowKit
set_option linter.unusedVariables false

/-- What TraceBy tells. -/
noncomputable def tbV (e t : List Int) : Bool := katV e && traceV t && byV [e] t
theorem tbV_same {e f : List Int} {ms : List Mv} (h : proofV e ms = some f) (t : List Int) : tbV e t = tbV f t := by
  have he := (proofV_iff.1 h).1
  have hf := proofV_kat h
  unfold tbV
  rw [he, hf]
  cases ht : traceV t with
  | false => rfl
  | true => rw [byV_same h he hf (traceV_tr ht)]
theorem traceBy_tb (lo hi lo' hi' : Nat) (ve vt : Value) (e t : List Int) (w : World) (b : Bool) (hb : tbV e t = b) (hx : SlI lo hi w ve e) (hy : SlI lo' hi' w vt t) (hh : hi ≤ w.heap.size) (hh' : hi' ≤ w.heap.size) (hm : e.length ≤ 1048576) (hm' : t.length ≤ 1048576) :
    Calls Tryz.prog 11 #[ve, vt] w fun e1 w' => e1 = .returned (.bool b) ∧ Below w.heap.size w w' := by
  subst hb
  exact traceBy_any lo hi lo' hi' ve vt e t w hx hy hh hh' hm hm'
theorem okV_proof {e f : List Int} {ms : List Mv} (h : okV e f ms = true) : proofV e ms = some f := by
  unfold okV at h
  split at h
  · rename_i x hx
    rw [eqL_iff, decide_eq_true_eq] at h
    rw [hx, h]
  · cases h

set_option maxRecDepth 100000 in
set_option maxHeartbeats 12800000 in
theorem law_FnProofOk (v : Value) (cs : List Int) (vb : Value) (ds : List Int) (w : World) (hx : SlB 0 w.heap.size w v cs) (hy : SlB 0 w.heap.size w vb ds) (hE : EnvK w) :
    Calls Tryz.prog 3 #[v, vb] w fun e w' => e = .returned (.bool true) ∧ Below w.heap.size w w' := by
  have HX := Lib.hid hx
  have HD := Lib.hid hy
  have HE := Lib.hid hE
  obtain ⟨⟨a, cap, rfl, hcap, hcm, _⟩, _⟩ := hx
  obtain ⟨⟨b, cap2, rfl, hcap2, hcm2, _⟩, _⟩ := hy
  unfold maxLen at hcm hcm2
  clear hE
  by_cases hm : cs.length ≤ 1048576
  · by_cases hm2 : ds.length ≤ 1048576
    · go_enter Tryz.func3, Tryz.ntmps3
      go_wp2_with fail
      refine (DrawProofOk_any _ cs _ HX.out).mono ?_
      rintro e w1 ⟨ve, vf, vm, rfl, es, fs, ms, h1, h2, h3, l1, l2, l3, hb⟩
      have hs1 := hb.size
      have HB := Lib.hid hb
      replace HD := Lib.hid (SlB.wide (SlB.below HD.out hb (Nat.le_refl _)) hb.size)
      replace HX := Lib.hid h1
      have HF := Lib.hid h2
      have HM := Lib.hid h3
      obtain ⟨xa, xc, rfl, _, _⟩ := Sl.shape h1
      obtain ⟨fa, fc, rfl, _, _⟩ := Sl.shape h2
      obtain ⟨ma, mc, rfl, _, _⟩ := h3.shape
      clear hb h1 h2 h3
      go_wp2_with fail
      refine (impl_ProofOk _ _ _ _ _ _ _ _ _ es fs ms _ (HE.out.below HB.out) HX.out (by omega) HF.out (Nat.le_refl _) (by omega) HM.out (by omega)).mono ?_
      rintro e w2 ⟨rfl, hb⟩
      have hs2 := hb.size
      replace HB := Lib.hid (HB.out.trans (hb.mono (by omega)))
      replace HX := Lib.hid (HX.out.below hb (Nat.le_refl _))
      replace HF := Lib.hid (HF.out.below hb (Nat.le_refl _))
      replace HM := Lib.hid (HM.out.below hb (Nat.le_refl _))
      replace HD := Lib.hid (SlB.wide (SlB.below HD.out hb (Nat.le_refl _)) hb.size)
      clear hb
      go_wp2_with fail
      refine (spec_ProofOk _ _ _ _ _ _ _ _ _ es fs ms _ HX.out (by omega) HF.out (by omega) (by omega) HM.out (by omega)).mono ?_
      rintro e w3 ⟨rfl, hb⟩
      have hs3 := hb.size
      replace HB := Lib.hid (HB.out.trans (hb.mono (by omega)))
      replace HX := Lib.hid (HX.out.below hb (by omega))
      replace HF := Lib.hid (HF.out.below hb (by omega))
      replace HD := Lib.hid (SlB.wide (SlB.below HD.out hb (Nat.le_refl _)) hb.size)
      clear hb HM
      cases hok : okV es fs ms with
      | false =>
        go_wp2_with fail
        refine (alive_any _).mono ?_
        rintro e _ ⟨rfl, rfl⟩
        go_wp2
        go_ret
        exact ⟨rfl, HB.out⟩
      | true =>
        have HP := Lib.hid (okV_proof hok)
        have HAP := Lib.hid (apart_proof HP.out)
        clear hok
        go_wp2_with fail
        refine (DrawTraceBy_any _ ds _ HD.out).mono ?_
        rintro e w4 ⟨vz, vt, rfl, ts, h1, l4, hb⟩
        have hs4 := hb.size
        replace HB := Lib.hid (HB.out.trans (hb.mono (by omega)))
        replace HX := Lib.hid (HX.out.below hb (by omega))
        replace HF := Lib.hid (HF.out.below hb (by omega))
        have HT := Lib.hid h1
        obtain ⟨ta, tc, rfl⟩ := Own.shape h1
        clear hb h1 HD
        go_wp2_with fail
        refine (AllTraces1 _).mono ?_
        rintro e w5 ⟨va, rfl, ⟨ss, xss, hr, hl5, hl6⟩, hb⟩
        have hs5 := hb.size
        replace HB := Lib.hid (HB.out.trans (hb.mono (by omega)))
        replace HX := Lib.hid (HX.out.below hb (by omega))
        replace HF := Lib.hid (HF.out.below hb (by omega))
        replace HT := Lib.hid ((HT.out.below hb (Nat.le_refl _)).lower (Nat.le_refl _) hb.size)
        have HR0 := Lib.hid hr
        have HR := Lib.hid (hr.lower (Nat.zero_le _) (Nat.le_refl _))
        have HL6 := Lib.hid hl6
        obtain ⟨oa, oc, rfl⟩ := Own.shape hr.1
        clear hb hr hl6
        go_wp2_with (at_builtin; go_loud (refine wpList_app_lit_at w5 rfl _ _ 31 rfl 23 (.slice none 0 0) 1 24 Tryz.underlying31 info_ints rfl (by decide) (by decide) rfl HR.out.1 1 [.slice ta ts.length tc] rfl rfl (by intro u hu; simp only [List.mem_singleton] at hu; subst hu; rfl) rfl ?c1 ?c2 ?_))
        case c1 => omega
        case c2 => omega
        intro v6 w6 ho6 hg6 _ _
        have hO6 := Outside.alloc (grown_outside hg6 HR0.out.1.lt)
        have hL6 := (LLs.lit HR.out HT.out ho6 hg6).1.sl
        have hs6 := hO6.size
        replace HB := Lib.hid (Below.outside HB.out hO6 (by omega) (by omega))
        replace HX := Lib.hid (HX.out.outside hO6 (.inl (by omega)))
        replace HF := Lib.hid (HF.out.outside hO6 (.inl (by omega)))
        have hxl : xss.length = ss.length := HR0.out.2.1.symm
        obtain ⟨yss, hy⟩ : ∃ yss, yss = xss ++ [ts] := ⟨_, rfl⟩
        rw [← hy] at hL6
        have hyl : yss.length ≤ 53 := by rw [hy]; simp; omega
        have HYL : Hid (∀ y ∈ yss, y.length ≤ 100) := Lib.hid (by
          rw [hy]
          intro y hm
          rcases List.mem_append.1 hm with hm | hm
          · have := HL6.out y hm; omega
          · simp only [List.mem_singleton] at hm; subst hm; omega)
        obtain ⟨ya, yc, rfl, hyc, hycm⟩ := hL6.shape
        unfold maxLen at hycm
        have HL := Lib.hid hL6
        clear hy hL6 ho6 hg6 hO6 hxl HR0 HR HT
        go_wp2
        go_loopw [12] (fun i wr => ∃ k : Nat, k ≤ yss.length ∧ i = .int .i64 k ∧ w6.heap.size ≤ wr.heap.size ∧ Hid (SlLL 0 w6.heap.size wr (.slice ya yss.length yc) yss ∧ SlI 0 w1.heap.size wr (.slice xa es.length xc) es ∧ SlI 0 w1.heap.size wr (.slice fa fs.length fc) fs ∧ Below w.heap.size w wr)) (fun i _ => yss.length - (intOf i).toNat)
        case atStart => exact ⟨0, by omega, rfl, Nat.le_refl _, Lib.hid ⟨HL.out, HX.out, HF.out, HB.out⟩⟩
        case round =>
          rename World => wr
          clear HL HX HF HB
          obtain ⟨k, hk, rfl, hzr, HQ⟩ := hrel
          have HL := Lib.hid HQ.out.1
          have HX := Lib.hid HQ.out.2.1
          have HF := Lib.hid HQ.out.2.2.1
          have HB := Lib.hid HQ.out.2.2.2
          clear HQ
          by_cases hlt : k < yss.length
          · obtain ⟨b5, off5, u5, rfl, _, _, hlt5, hc5, hu5⟩ := HL.out.get k hlt
            have HLT := Lib.hid hlt5
            obtain ⟨pa5, pc5, rfl, _, _⟩ := Sl.shape hu5
            have hl5' := HYL.out yss[k] (List.getElem_mem hlt)
            obtain ⟨b0, hb0⟩ : ∃ b0, tbV es yss[k] = b0 := ⟨_, rfl⟩
            have HT1 := Lib.hid hb0
            have HT2 := Lib.hid ((tbV_same HP.out yss[k]).symm.trans hb0)
            clear hb0
            have bd_ : Below wr.heap.size wr wr.drew := Below.drew (Below.refl _ _)
            have hdz : wr.drew.heap.size = wr.heap.size := rfl
            have hcd : wr.drew.cell? ⟨b5, off5 + k, none⟩ = some (.slice pa5 yss[k].length pc5) := hc5
            have HU := Lib.hid (hu5.below bd_ (by omega))
            replace HL := Lib.hid (HL.out.below bd_ (by omega))
            replace HX := Lib.hid (HX.out.below bd_ (by omega))
            replace HF := Lib.hid (HF.out.below bd_ (by omega))
            replace HB := Lib.hid (HB.out.trans (bd_.mono (by have := HB.out.size; omega)))
            clear hu5 hc5 bd_
            go_upto_region 14 with fail
            go_region_held3 (fun w' => w'.cell? ⟨b5, off5 + k, none⟩ = some (.slice pa5 yss[k].length pc5)) (first | with_reducible assumption | go_keep) (first
              | ((have g_ := HB7); go_at_call 11; refine (traceBy_tb _ _ _ _ _ _ fs yss[k] _ b0 HT2.out HF7.out HU7.out (by omega) (by omega) (by omega) (by omega)).mono ?_; rintro e8 w8 ⟨rfl, h_⟩; (have hs8 := h_.size); (have HL8 := Lib.hid (HL7.out.below h_ (by omega))); (have hc8 : w8.cell? ⟨b5, off5 + k, none⟩ = some (.slice pa5 yss[k].length pc5) := (h_.cell (p := ⟨b5, off5 + k, none⟩) (show b5 < w7.heap.size from Nat.lt_of_lt_of_le HLT.out hs7)).trans hc7); (have HX8 := Lib.hid (HX7.out.below h_ (by omega))); (have HF8 := Lib.hid (HF7.out.below h_ (by omega))); (have HB8 := Lib.hid (HB7.out.trans (h_.mono (by have := HB7.out.size; omega)))); clear h_ g_)
              | (go_at_call 11; refine (traceBy_tb _ _ _ _ _ _ es yss[k] _ b0 HT1.out HX.out HU.out (by omega) (by omega) (by omega) (by omega)).mono ?_; rintro e7 w7 ⟨rfl, h_⟩; (have hs7 := h_.size); (have HL7 := Lib.hid (HL.out.below h_ (by omega))); (have hc7 : w7.cell? ⟨b5, off5 + k, none⟩ = some (.slice pa5 yss[k].length pc5) := (h_.cell (p := ⟨b5, off5 + k, none⟩) (show b5 < wr.drew.heap.size from HLT.out)).trans hcd); (have HU7 := Lib.hid (HU.out.below h_ (by omega))); (have HX7 := Lib.hid (HX.out.below h_ (by omega))); (have HF7 := Lib.hid (HF.out.below h_ (by omega))); (have HB7 := Lib.hid (HB.out.trans (h_.mono (by have := HB.out.size; omega)))); clear h_))
            go_wp2
            go_roundw
            case rel => exact ⟨k + 1, by omega, by go_num, by omega, Lib.hid ⟨HL8.out, HX8.out, HF8.out, HB8.out⟩⟩
            case measure => simp [intOf]; omega
          · obtain rfl : yss.length = k := by omega
            go_wp2_with fail
            refine (equal_any _ _ _ _ _ _ es fs _ HX.out HF.out (by omega) (by omega) (by omega) (by omega)).mono ?_
            rintro e8 w8 ⟨i, rfl, hi_, h_⟩
            have hi0 : (i != 0) = true := bne_iff_ne.2 (fun hz => HAP.out (hi_ hz))
            replace HB := Lib.hid (HB.out.trans (h_.mono HB.out.size))
            clear h_ hi_
            go_wp2
            go_ret
            exact ⟨rfl, HB.out⟩
    · go_enter Tryz.func3, Tryz.ntmps3
      go_wp2
      go_ret
      exact ⟨rfl, Below.refl _ _⟩
  · go_enter Tryz.func3, Tryz.ntmps3
    go_wp2
    go_ret
    exact ⟨rfl, Below.refl _ _⟩
end Go.Proofs.YtplofpdjhelabaaGreatDoor
