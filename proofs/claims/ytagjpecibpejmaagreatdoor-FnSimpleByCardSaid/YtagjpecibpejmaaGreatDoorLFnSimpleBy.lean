/-
  Texts of walks and plain lemmas for this seat; no condition.
-/
import Derived.Test.YtagjpecibpejmaaGreatDoorDBound
import Derived.Test.YtagjpecibpejmaaGreatDoorHasInt
import Derived.Test.YtagjpecibpejmaaGreatDoorLawP
import Derived.Test.YtagjpecibpejmaaGreatDoorIMoveDo
import Derived.Test.YtagjpecibpejmaaGreatDoorSame
import Derived.Test.YtagjpecibpejmaaGreatDoorSame2
import Derived.Test.YtagjpecibpejmaaGreatDoorAlive
namespace Go.Proofs.YtagjpecibpejmaaGreatDoor
open Go.RowKit

set_option maxHeartbeats 1600000 in
theorem DrawSimpleBy_any (v : Value) (cs : List Int) (w : World) (h : SlB 0 w.heap.size w v cs) :
    Calls Tryz.prog 20 #[v] w (RetV fun v w' => ∃ xs : List Int, SlI 0 w'.heap.size w' v xs ∧ xs.length ≤ 44 ∧ Below w.heap.size w w') := by
  go_enter Tryz.func20, Tryz.ntmps20
  go_wp2_with fail
  refine (l20Open_any _ cs _ h).mono ?_
  rintro e w1 ⟨_, rfl, g, rfl, hg, hb, hr⟩
  have HB := Lib.hid hb
  have HR := Lib.hid hr
  have hs1 := hb.size
  have hg1 := hr.lt
  clear hr hb h
  go_wp2_with fail
  refine (l20Bound_any g 0 9 _ HR.out (by omega) (by omega)).mono ?_
  rintro e w2 ⟨v2, rfl, xs, hx, hl, ho, hr⟩
  replace HB := Lib.hid (Below.outside HB.out ho (by omega) (by omega))
  have HX := Lib.hid hx
  have hs2 := ho.size
  clear hx ho hr
  go_wp2
  go_ret
  exact RetV.mk _ rfl ⟨xs, HX.out.wide (Nat.zero_le _) (Nat.le_refl _), hl, HB.out⟩
def easyI : List Int := [2, 3, 5, 6, 7, 8, 15, 16, 17, 18, 19]
theorem easyI_mem {x : Int} (h : x ∈ easyI) : x.toNat ∈ easyN := by
  simp only [easyI, List.mem_cons, List.not_mem_nil, or_false] at h
  rcases h with rfl | rfl | rfl | rfl | rfl | rfl | rfl | rfl | rfl | rfl | rfl <;> decide
theorem easy_lit (w : World) : SlI w.heap.size (w.alloc (.cells #[.int .i64 2, .int .i64 3, .int .i64 5, .int .i64 6, .int .i64 7, .int .i64 8, .int .i64 15, .int .i64 16, .int .i64 17, .int .i64 18, .int .i64 19] 3)).heap.size (w.alloc (.cells #[.int .i64 2, .int .i64 3, .int .i64 5, .int .i64 6, .int .i64 7, .int .i64 8, .int .i64 15, .int .i64 16, .int .i64 17, .int .i64 18, .int .i64 19] 3)) (.slice (some ⟨w.heap.size, 0, none⟩) 11 11) easyI := by
  have h := (Own.lit 1 3 w (ints easyI) 11 (by omega) rfl).sl
  rw [alloc_size]
  exact h

set_option maxRecDepth 100000 in
set_option maxHeartbeats 6400000 in
theorem law_FnSimpleBy (v : Value) (cs : List Int) (w : World) (hx : SlB 0 w.heap.size w v cs) (hE : EnvK w) :
    Calls Tryz.prog 5 #[v] w fun e w' => e = .returned (.bool true) ∧ Below w.heap.size w w' := by
  have HX := Lib.hid hx
  have HE := Lib.hid hE
  obtain ⟨⟨a, cap, rfl, hcap, hcm, _⟩, _⟩ := hx
  unfold maxLen at hcm
  clear hE
  by_cases hm : cs.length ≤ 1048576
  · go_enter Tryz.func5, Tryz.ntmps5
    go_wp2_with fail
    refine (DrawSimpleBy_any _ cs _ HX.out).mono ?_
    rintro e w1 ⟨v1, rfl, xs, h1, hl, hb⟩
    have HB := Lib.hid hb
    have hs1 := hb.size
    replace HX := Lib.hid h1
    obtain ⟨xa, xc, rfl, _, _⟩ := Sl.shape h1
    clear hb h1
    have hml := simpBy_len xs
    obtain ⟨ms, hms⟩ : ∃ ms, simpBy xs = ms := ⟨_, rfl⟩
    rw [hms] at hml
    have HMS := Lib.hid hms
    clear hms
    go_wp2_with fail
    refine (impl_SimpleBy _ xs w1 (HE.out.below HB.out) (SlI.rd HX.out (Nat.le_refl _)) (by omega)).mono ?_
    rintro e w2 ⟨v2, rfl, h_, o_⟩
    rw [HMS.out] at o_
    have hs2 := h_.size
    replace HX := Lib.hid (HX.out.below h_ (Nat.le_refl _))
    replace HB := Lib.hid (HB.out.trans (h_.mono (by omega)))
    have OM := Lib.hid (OwnM.sl o_)
    obtain ⟨ma, mc, rfl, _⟩ := Own.open o_
    clear h_ o_
    go_wp2_with fail
    refine (spec_SimpleBy _ xs w2 (SlI.rd HX.out (by omega)) (by omega)).mono ?_
    rintro e w3 ⟨v3, rfl, h_, o_⟩
    rw [HMS.out] at o_
    have hs3 := h_.size
    replace HX := Lib.hid (HX.out.below h_ (by omega))
    replace OM := Lib.hid (OM.out.below h_ (by omega))
    replace HB := Lib.hid (HB.out.trans (h_.mono (by omega)))
    have OS := Lib.hid (OwnM.sl o_)
    obtain ⟨na, nc, rfl, _⟩ := Own.open o_
    clear h_ o_
    go_wp2_with fail
    refine (sameMoves_same _ _ _ _ _ _ ms _ OM.out OS.out (by omega)).mono ?_
    rintro e w4 ⟨rfl, h_⟩
    have hs4 := h_.size
    replace HX := Lib.hid (HX.out.below h_ (by omega))
    replace OM := Lib.hid (OM.out.below h_ (by omega))
    replace HB := Lib.hid (HB.out.trans (h_.mono (by omega)))
    clear h_ OS
    go_wp2_with fail
    refine (spec_KatValid _ _ _ xs _ HX.out (by omega)).mono ?_
    rintro e _ ⟨rfl, rfl⟩
    cases hk : katV xs
    · obtain rfl : ms = [] := by rw [← HMS.out, simpBy, hk]; rfl
      clear hk
      go_wp2_with fail
      refine (alive_any _).mono ?_
      rintro e _ ⟨rfl, rfl⟩
      go_wp2
      go_ret
      exact ⟨rfl, HB.out⟩
    · have HSH := Lib.hid (show ms.length < xs.length by rw [← HMS.out]; exact simpBy_short hk)
      have HBK := Lib.hid (show ∀ m ∈ ms, m.back = false by rw [← HMS.out]; exact simpBy_back)
      have hyl := simpE_len xs
      have HFE := Lib.hid (simpE_done hk)
      have HOKV := Lib.hid (show okV xs (simpE xs) ms = true by rw [← HMS.out]; exact okV_simp hk)
      clear hk
      obtain ⟨ys, hys⟩ : ∃ ys, simpE xs = ys := ⟨_, rfl⟩
      rw [hys] at hyl HFE HOKV
      have HYS := Lib.hid hys
      clear hys
      go_wp2_with fail
      refine (impl_Simple _ xs w4 (HE.out.below HB.out) (SlI.rd HX.out (by omega)) (by omega)).mono ?_
      rintro e w5 ⟨v5, rfl, h_, o_⟩
      rw [HYS.out] at o_
      have hs5 := h_.size
      replace HX := Lib.hid (HX.out.below h_ (by omega))
      replace OM := Lib.hid (OM.out.below h_ (by omega))
      replace HB := Lib.hid (HB.out.trans (h_.mono (by omega)))
      have OY := Lib.hid o_.sl
      obtain ⟨ya, yc, rfl, _⟩ := Own.open o_
      clear h_ o_
      go_wp2
      go_loopw [6] (fun i wr => ∃ k : Nat, k ≤ ms.length ∧ i = .int .i64 k ∧ wr = w5) (fun i _ => ms.length - (intOf i).toNat)
      case atStart => exact ⟨0, by omega, rfl, rfl⟩
      case round =>
        obtain ⟨k, hk, rfl, rfl⟩ := hrel
        by_cases hlt : k < ms.length
        · obtain ⟨b, off, rfl, _, _, _, c0, c1, c2⟩ := OM.out.get k hlt
          rw [HBK.out _ (List.getElem_mem hlt)] at c1
          clear c0 c2
          go_wp2
          go_roundw
          case rel => exact ⟨k + 1, by omega, by go_num, by first | trivial | rfl⟩
          case measure => simp [intOf]; omega
        · obtain rfl : k = ms.length := by omega
          clear hlt
          obtain ⟨w5', rfl⟩ : ∃ x, x = wr := ⟨_, rfl⟩
          go_wp2
          go_loopw [7] (fun i wr => ∃ k : Nat, k ≤ ys.length ∧ i = .int .i64 k ∧ Hid (Below w5'.heap.size w5' wr)) (fun i _ => ys.length - (intOf i).toNat)
          case atStart => exact ⟨0, by omega, rfl, Lib.hid (Below.refl _ _)⟩
          case round =>
            obtain ⟨k, hk, rfl, HW⟩ := hrel
            obtain ⟨wo, rfl⟩ : ∃ x, x = wr := ⟨_, rfl⟩
            have hsr := HW.out.size
            have HBo := Lib.hid (HB.out.trans (HW.out.mono (by omega)))
            have HYo := Lib.hid (OY.out.below HW.out (by omega))
            by_cases hlt : k < ys.length
            · have hol := atV_len ys k 21
              have HEA := Lib.hid (fun x => @atV_easy ys HFE.out k hlt x)
              obtain ⟨out, hout⟩ : ∃ out, atV ys k 21 = out := ⟨_, rfl⟩
              rw [hout] at hol HEA
              have HOU := Lib.hid hout
              clear hout
              go_wp2_with fail
              refine (impl_MovesAt _ ys k wo (HE.out.below HBo.out) (SlI.rd HYo.out (by omega)) (by omega)).mono ?_
              rintro e w6 ⟨v6, rfl, h_, o_⟩
              rw [HOU.out] at o_
              have hs6 := h_.size
              have HW6 := Lib.hid (HW.out.trans (h_.mono (by omega)))
              have OO := Lib.hid o_.sl
              obtain ⟨oa, oc, rfl, _⟩ := Own.open o_
              clear h_ o_ HBo HYo
              go_wp2
              go_loopw [9] (fun i wr => ∃ j : Nat, j ≤ out.length ∧ i = .int .i64 j ∧ Hid (Below w6.heap.size w6 wr)) (fun i _ => out.length - (intOf i).toNat)
              case atStart => exact ⟨0, by omega, rfl, Lib.hid (Below.refl _ _)⟩
              case round =>
                obtain ⟨j, hj, rfl, HI⟩ := hrel
                have hsi := HI.out.size
                by_cases hjl : j < out.length
                · obtain ⟨w7, hw7⟩ : ∃ w7, w7 = wr.alloc (.cells #[.int .i64 2, .int .i64 3, .int .i64 5, .int .i64 6, .int .i64 7, .int .i64 8, .int .i64 15, .int .i64 16, .int .i64 17, .int .i64 18, .int .i64 19] 3) := ⟨_, rfl⟩
                  have hb7 : Below wr.heap.size wr w7 := by rw [hw7]; exact (Below.refl _ _).alloc (Nat.le_refl _) _
                  have EL : Hid (SlI wr.heap.size w7.heap.size w7 (.slice (some ⟨wr.heap.size, 0, none⟩) 11 11) easyI) := Lib.hid (by rw [hw7]; exact easy_lit wr)
                  have HI7 := Lib.hid (HI.out.trans (hb7.mono (by omega)))
                  have OO7 := Lib.hid (OO.out.below HI7.out (Nat.le_refl _))
                  obtain ⟨b, off, rfl, _, _, _, hc⟩ := OO7.out.get j hjl
                  obtain ⟨x, hx⟩ : ∃ x, out[j] = x := ⟨_, rfl⟩
                  rw [hx] at hc
                  have HDC := Lib.hid (show decide (x ∈ easyI) = false by
                    simp only [decide_eq_false_iff_not]
                    intro h
                    exact HEA.out x (by rw [← hx]; exact List.getElem_mem hjl) (easyI_mem h))
                  have HW7 := Lib.hid hw7
                  clear hb7 hw7 hx
                  go_wp2_with (rw [← HW7.out])
                  refine (hasInt_any _ _ _ easyI x _ EL.out (by decide)).mono ?_
                  rintro e _ ⟨rfl, rfl⟩
                  rw [HDC.out]
                  go_wp2
                  go_roundw
                  case rel => exact ⟨j + 1, by omega, by go_num, HI7⟩
                  case measure => simp [intOf]; omega
                · obtain rfl : j = out.length := by omega
                  have HW8 := Lib.hid (HW6.out.trans (HI.out.mono (by omega)))
                  go_wp2
                  go_roundw
                  case rel => exact ⟨k + 1, by omega, by go_num, HW8⟩
                  case measure => simp [intOf]; omega
            · obtain rfl : k = ys.length := by omega
              have HXo := Lib.hid (HX.out.below HW.out (by omega))
              have OMo := Lib.hid (OM.out.below HW.out (by omega))
              have hsh : (ms.length : Int) < (xs.length : Int) := by have := HSH.out; omega
              go_wp2_with fail
              refine (impl_ProofOk _ _ _ _ _ _ _ _ _ xs ys ms wo (HE.out.below HBo.out) HXo.out (by omega) HYo.out (by omega) (by omega) OMo.out (by omega)).mono ?_
              rintro e w6 ⟨rfl, h_⟩
              rw [HOKV.out]
              replace HBo := Lib.hid (HBo.out.trans (h_.mono (by omega)))
              clear h_
              go_wp2
              go_ret
              exact ⟨rfl, HBo.out⟩
  · go_enter Tryz.func5, Tryz.ntmps5
    go_wp2
    go_ret
    exact ⟨rfl, Below.refl _ _⟩
end Go.Proofs.YtagjpecibpejmaaGreatDoor
