/-
  Texts of walks and plain lemmas for this seat; no condition.
-/
import Derived.Test.YtjpndimhegfbnaaGreatDoorRepl2
import Derived.Test.YtjpndimhegfbnaaGreatDoorIReadKat
import Derived.Test.YtjpndimhegfbnaaGreatDoorRules
namespace Go.Proofs.YtjpndimhegfbnaaGreatDoor
open Go.RowKit


set_option maxRecDepth 100000 in
set_option maxHeartbeats 3200000 in
theorem readSide_any (txt : List UInt8) (e : List Int) (w : World) (hM : MapT w) (hl : txt.length ≤ 199) (hp : sumP txt.length (txt.map repl8) = some (e, [])) (hv : katV e = true) :
    Calls Tryz.prog 98 #[.string ⟨txt.toArray⟩] w (RetV fun v w' => Below w.heap.size w w' ∧ OwnI w.heap.size w'.heap.size 3 w' v (e.map toVar)) := by
  have HM := Lib.hid hM
  have HP := Lib.hid hp
  have helen : e.length ≤ 199 := by have := sum_short txt.length _ _ _ hp; simp at this; omega
  clear hM hp
  obtain ⟨w0, hw0⟩ : ∃ w0, w0 = w.alloc (.cells #[.string ⟨#[120]⟩, .string ⟨#[97]⟩, .string ⟨#[121]⟩, .string ⟨#[98]⟩, .string ⟨#[122]⟩, .string ⟨#[99]⟩] 9) := ⟨_, rfl⟩
  have hb0 : Below w.heap.size w w0 := by rw [hw0]; exact (Below.refl _ _).alloc (Nat.le_refl _) _
  have hsl : Sl 1 0 w0.heap.size w0 (.slice (some ⟨w.heap.size, 0, none⟩) 6 6) 6 six := by
    have h := (Own.lit 1 9 w six 6 (by omega) rfl).sl
    rw [hw0]
    exact Sl.wide h (Nat.zero_le _) (by simp)
  have hsz0 := hb0.size
  have HB := Lib.hid hb0
  have HS := Lib.hid hsl
  have HW0 := Lib.hid hw0
  clear hb0 hsl hw0
  go_enter Tryz.func98, Tryz.ntmps98
  go_wp2_with fail
  simp only [← HW0.out]
  refine (newReplacer_any _ _ _ HS.out).mono ?_
  rintro e1 w1 ⟨v1, rfl, g, o, cap, rfl, hg, ho, hne, hb, hk, hs⟩
  have HK := Lib.hid hk
  have HC := Lib.hid hs
  replace HB := Lib.hid (HB.out.trans (hb.mono hsz0))
  clear hk hs hb
  go_wp2_with fail
  refine (replReplace_any g o cap txt w1 hne HK.out HC.out hl).mono ?_
  rintro e1 w2 ⟨rfl, ho2⟩
  replace HB := Lib.hid (Below.outside HB.out ho2 (by omega) HB.out.size)
  clear ho2
  go_wp2_with fail
  refine (impl_ReadKat (txt.map repl8) e _ rfl w2 (HM.out.below HB.out) (by simpa using hl) (by rw [List.length_map]; exact HP.out) hv).mono ?_
  rintro e1 w3 ⟨v3, rfl, v, rfl, hb, hown⟩
  have hs2 := HB.out.size
  replace HB := Lib.hid (HB.out.trans (hb.mono HB.out.size))
  obtain ⟨a, cp, rfl, hcap, hcm, hlen, hopen⟩ := Own.open hown
  have hown0 := hown.1
  have HLT := Lib.hid hown.2
  clear hb hown hlen
  go_wp2
  go_loopw [17] (fun i wr => ∃ j : Nat, j ≤ e.length ∧ i = .int .i64 j ∧ Hid (wr.ownsRow w2.heap.size 3 1 (.slice a e.length cp) e.length (over (ints (e.map toVar)) (ints e) j) ∧ Below w.heap.size w wr ∧ w3.heap.size ≤ wr.heap.size)) (fun i _ => e.length - (intOf i).toNat)
  case atStart => exact ⟨0, by omega, rfl, Lib.hid ⟨by rw [over_zero]; exact hown0, HB.out, Nat.le_refl _⟩⟩
  case round =>
    obtain ⟨j, hj, rfl, HR⟩ := hrel
    clear hown0
    by_cases hlt : j < e.length
    · obtain ⟨q, rfl, hg1, hg2⟩ := hopen (by omega)
      have hown := HR.out.1
      have hw1 := hown.cellAt j (by omega)
      have hw2 := hown.frozenAt j
      rw [over_get _ _ _ (by simp [ints]) (by simp [ints]; omega), ints_get _ _ hlt] at hw1
      have hlm : j < (e.map toVar).length := by simpa using hlt
      cases hq : isActB e[j]
      · have HE := Lib.hid (show over (ints (e.map toVar)) (ints e) j = over (ints (e.map toVar)) (ints e) (j + 1) by
          have h := over_set (ints (e.map toVar)) (ints e) j (by simp [ints]) (by simp [ints]; omega) _ (ints_get _ _ hlm)
          rw [← h]
          symm
          apply List.ext_getElem?
          intro i
          rw [List.getElem?_set]
          split
          · subst_vars
            split
            · rw [over_get _ _ _ (by simp [ints]) (by simp [ints]; omega), ints_get _ _ hlt]
              simp [toVar, hq]
            · rename_i h2
              exact absurd (by rw [over_length _ _ _ (by simp [ints])]; simp [ints]; omega) h2
          · rfl)
        clear hown hopen
        go_wp2_with (go_at_call 121; refine (isAct_any _ _).mono ?_; rintro e w' ⟨rfl, rfl⟩)
        go_roundw
        case rel => exact ⟨j + 1, by omega, by go_num, Lib.hid ⟨by rw [← HE.out]; exact HR.out.1, HR.out.2⟩⟩
        case measure => simp [intOf]; omega
      · have hty : (-1 : Int) - (e[j] - 16) = (e.map toVar)[j] := by simp [toVar, hq]
        have HST := Lib.hid (hown.stored j (.int .i64 (-1 - (e[j] - 16)))).1
        have HY := Lib.hid hty
        have hb1 : 16 ≤ e[j] ∧ e[j] ≤ 18 := by simpa [isActB] using hq
        obtain ⟨b16, b18⟩ := hb1
        clear hown hopen hty
        go_wp2_with (go_at_call 121; refine (isAct_any _ _).mono ?_; rintro e w' ⟨rfl, rfl⟩)
        go_roundw
        case rel =>
          refine ⟨j + 1, by omega, by go_num, Lib.hid ⟨?_, HR.out.2.1.setCell (p := ⟨q, j, none⟩) (by show w.heap.size ≤ q; omega) _, by simpa [World.setCell] using HR.out.2.2⟩⟩
          have h := over_set (ints (e.map toVar)) (ints e) j (by simp [ints]) (by simp [ints]; omega) _ (ints_get _ _ hlm)
          rw [← h, ← HY.out]
          exact HST.out
        case measure => simp [intOf]; omega
    · obtain rfl : j = e.length := by omega
      go_wp2
      go_ret
      have h := HR.out.1
      rw [over_all _ _ _ (by simp [ints]) (by simp [ints])] at h
      refine RetV.mk _ rfl ⟨HR.out.2.1, OwnI.len (n := e.length) (Own.wide2 ⟨h, fun g hg => Nat.lt_of_lt_of_le (HLT.out g hg) HR.out.2.2⟩ hs2 (Nat.le_refl _)) (by simp)⟩
end Go.Proofs.YtjpndimhegfbnaaGreatDoor
