/-
  Texts of walks and plain lemmas for this seat; no condition.
-/
import Derived.Test.YtacgefknhncgfaaDoorSSmallT
namespace Go.Proofs.YtacgefknhncgfaaDoor
open Go.RowKit
set_option linter.unusedVariables false

theorem smU_all : ∀ m, m ≤ 99 → SmU (starredP (singleF (sumF m))) (99 - m)
  | 0, _ => small_u (sumF 0) 99 (short_sumF 0) (by omega) (fun h => absurd h (by omega)) (fun _ _ => rfl)
  | m + 1, h => by
    refine small_u (sumF (m + 1)) _ (short_sumF (m + 1)) (by omega) (fun _ => ?_) (fun h2 => absurd h2 (by omega))
    rw [show 99 - (m + 1) + 1 = 99 - m by omega]
    exact great1_u _ _ (chain_short (starred_short (short_singleF (short_sumF m)))) (great2_u _ _ (starred_short (short_singleF (short_sumF m))) (great3_u _ _ (smU_all m (by omega))))
theorem grU_top : GrU (sumF 100) 1 0 :=
  great1_u _ _ (chain_short (starred_short (short_singleF (short_sumF 99)))) (great2_u _ _ (starred_short (short_singleF (short_sumF 99))) (great3_u _ _ (smU_all 99 (by omega))))
theorem lit0 (w w1 : World) (h : Below w.heap.size w w1) : OwnI w.heap.size (w1.alloc (.cells #[] 3)).heap.size 3 (w1.alloc (.cells #[] 3)) (.slice (some ⟨w1.heap.size, 0, none⟩) 0 0) [] :=
  Own.wide2 (Own.lit 1 3 w1 (ints []) 0 (by omega) rfl) h.size (by simp)

set_option maxRecDepth 100000 in
set_option maxHeartbeats 3200000 in
/-- The reference's ReadKat of any text. -/
theorem spec_ReadKat_tot (txt : List UInt8) (s : ByteArray) (hs : s = ⟨txt.toArray⟩) (w : World) (hl : txt.length ≤ 1048576) :
    Calls Tryd.prog 6 #[.string s] w (RetVK fun v ok w' => ok = (readF txt).isSome ∧ OwnI w.heap.size w'.heap.size 3 w' v ((readF txt).getD []) ∧ Below w.heap.size w w') := by
  subst hs
  by_cases h199 : txt.length ≤ 199
  · have HRF := Lib.hid (show readF txt = match sumF 100 txt with
      | some (e, []) => if katV e then some e else none
      | _ => none by
      rw [readF, if_pos h199]
      cases sumF 100 txt with
      | none => rfl
      | some x =>
        obtain ⟨e, r⟩ := x
        cases r <;> rfl)
    have HG := Lib.hid (grU_top w txt txt 0 ⟨by simp, by simp⟩ h199)
    go_enter Tryd.func6, Tryd.ntmps6
    go_wp2_with fail
    refine HG.out.mono ?_
    rintro e' w1 ⟨v, n, e, ok, rfl, hb, hown, hle, hy, hno⟩
    obtain ⟨a, cap, rfl, _⟩ := Own.open hown
    have HB := Lib.hid hb
    have HV := Lib.hid hown
    have HLA := Lib.hid (lit0 w w1 hb)
    have HBA := Lib.hid (hb.trans ((al_below w1 (.cells #[] 3)).mono hb.size))
    clear hb hown
    cases ok with
    | false =>
      have HRES := Lib.hid (show readF txt = none by rw [HRF.out, hno rfl])
      clear hy hno
      go_wp2
      refine bodyPost_ret (v := .tuple #[.slice (some ⟨w1.heap.size, 0, none⟩) 0 0, .bool false]) (by simp [results, Tryd.results6, go_sem]) rfl ?_
      exact ⟨_, _, rfl, by rw [HRES.out]; rfl, by rw [HRES.out]; exact HLA.out, HBA.out⟩
    | true =>
      obtain ⟨r, hp, hT⟩ := hy rfl
      have hTn := hT.2
      clear hy hno hT
      cases r with
      | cons d r =>
        have HRES := Lib.hid (show readF txt = none by rw [HRF.out, hp])
        have hne : ((n : Int) != (txt.length : Int)) = true := by simp at hTn ⊢; omega
        clear hp hTn
        go_wp2
        refine bodyPost_ret (v := .tuple #[.slice (some ⟨w1.heap.size, 0, none⟩) 0 0, .bool false]) (by simp [results, Tryd.results6, go_sem]) rfl ?_
        exact ⟨_, _, rfl, by rw [HRES.out]; rfl, by rw [HRES.out]; exact HLA.out, HBA.out⟩
      | nil =>
        obtain rfl : n = txt.length := by simpa using hTn
        have hne : ((txt.length : Int) != (txt.length : Int)) = false := by simp
        cases hkv : katV e
        · have HRES := Lib.hid (show readF txt = none by rw [HRF.out, hp]; simp [hkv])
          clear hp
          go_wp2_with fail
          refine (spec_KatValid _ _ _ e _ HV.out.sl (by omega)).mono ?_
          rintro e' w2 ⟨rfl, rfl⟩
          rw [hkv]
          go_wp2
          refine bodyPost_ret (v := .tuple #[.slice (some ⟨w1.heap.size, 0, none⟩) 0 0, .bool false]) (by simp [results, Tryd.results6, go_sem]) rfl ?_
          exact ⟨_, _, rfl, by rw [HRES.out]; rfl, by rw [HRES.out]; exact HLA.out, HBA.out⟩
        · have HRES := Lib.hid (show readF txt = some e by rw [HRF.out, hp]; simp [hkv])
          clear hp
          go_wp2_with fail
          refine (spec_KatValid _ _ _ e _ HV.out.sl (by omega)).mono ?_
          rintro e' w2 ⟨rfl, rfl⟩
          rw [hkv]
          go_wp2
          refine bodyPost_ret (v := .tuple #[.slice a e.length cap, .bool true]) (by simp [results, Tryd.results6, go_sem]) rfl ?_
          exact ⟨_, _, rfl, by rw [HRES.out]; rfl, by rw [HRES.out]; exact HV.out, HB.out⟩
  · have HRES := Lib.hid (readF_long h199)
    have HLA := Lib.hid (lit0 w w (Below.refl _ _))
    go_enter Tryd.func6, Tryd.ntmps6
    go_wp2
    refine bodyPost_ret (v := .tuple #[.slice (some ⟨w.heap.size, 0, none⟩) 0 0, .bool false]) (by simp [results, Tryd.results6, go_sem]) rfl ?_
    exact ⟨_, _, rfl, by rw [HRES.out]; rfl, by rw [HRES.out]; exact HLA.out, al_below _ _⟩
end Go.Proofs.YtacgefknhncgfaaDoor
