/-
  Texts of walks and plain lemmas for this seat; no condition.
-/
import Derived.Test.YtagjpecibpejmaaGreatDoorDDraws
import Derived.Test.YtagjpecibpejmaaGreatDoorRJour
import Derived.Test.YtagjpecibpejmaaGreatDoorJournal2
import Derived.Test.YtagjpecibpejmaaGreatDoorJournal3
import Derived.Test.YtagjpecibpejmaaGreatDoorActLaw
import Derived.Test.YtagjpecibpejmaaGreatDoorSameA
import Derived.Test.YtagjpecibpejmaaGreatDoorGN
namespace Go.Proofs.YtagjpecibpejmaaGreatDoor
open Go.RowKit

theorem jrText_read {acts : List Ac} (h : jrText acts ≠ []) : readJr (jrText acts) = (acts, (jrText acts).length) := by
  have hk : jrOk acts = true := by
    cases hk : jrOk acts
    · simp [jrText, hk] at h
    · rfl
  rw [jrText, if_pos hk]
  refine jr_read acts fun a ha => ?_
  have := List.all_eq_true.1 hk a ha
  simpa using this
theorem jrText_len (acts : List Ac) : (jrText acts).length ≤ 8 * acts.length := by
  unfold jrText
  split
  · rename_i hj
    clear hj
    induction acts with
    | nil => simp [jrGo]
    | cons a r ih =>
      have h := actText_len a
      simp only [jrGo, List.flatMap_cons, List.length_append, List.length_cons, List.length_nil] at ih ⊢
      omega
  · simp

set_option maxRecDepth 100000 in
set_option maxHeartbeats 1600000 in
theorem law_FnJournalText (v : Value) (cs : List Int) (w : World) (hx : SlB 0 w.heap.size w v cs) (hE : Env w) :
    Calls Tryz.prog 10 #[v] w fun e w' => e = .returned (.bool true) ∧ Below w.heap.size w w' := by
  have HX := Lib.hid hx
  obtain ⟨⟨a, cap, rfl, hcap, hcm, _⟩, _⟩ := hx
  unfold maxLen at hcm
  by_cases hm : cs.length ≤ 1048576
  · have HE := Lib.hid hE
    clear hE
    go_enter Tryz.func10, Tryz.ntmps10
    go_wp2_with fail
    refine (DrawJournalText_any _ cs _ HX.out).mono ?_
    rintro e w1 ⟨va, rfl, acts, hl, hb, ha⟩
    obtain ⟨la, lc, rfl, hlc1, hlc2⟩ := ha.shape
    unfold maxLen at hlc2
    have HB := Lib.hid hb
    have HA := Lib.hid ha
    have HT := Lib.hid (jrText_len acts)
    have hs1 := hb.size
    clear hb ha
    go_wp2_with fail
    refine (impl_JournalText _ _ _ acts _ HA.out (by omega) (Nat.le_refl _)).mono ?_
    rintro e w2 ⟨rfl, hb⟩
    have hs2 := hb.size
    replace HA := Lib.hid (SlA.below HA.out hb (Nat.le_refl _))
    replace HB := Lib.hid (HB.out.trans (hb.mono HB.out.size))
    clear hb
    go_wp2_with fail
    refine (spec_JournalText _ _ _ acts _ HA.out (by omega) (by omega)).mono ?_
    rintro e w3 ⟨rfl, hb⟩
    have hs3 := hb.size
    replace HA := Lib.hid (SlA.below HA.out hb (by omega))
    replace HB := Lib.hid (HB.out.trans (hb.mono HB.out.size))
    clear hb
    obtain ⟨t, ht⟩ : ∃ t, t = jrText acts := ⟨_, rfl⟩
    rw [← ht] at HT ⊢
    have HJ := Lib.hid ht
    have htl := HT.out
    clear ht
    cases t with
    | nil =>
      go_wp2_with fail
      refine (alive_any _).mono ?_
      rintro e w5 ⟨rfl, rfl⟩
      go_wp2
      go_ret
      exact ⟨rfl, HB.out⟩
    | cons c r =>
      have HR := Lib.hid (show readJr (c :: r) = (acts, (c :: r).length) by rw [HJ.out]; exact jrText_read (by rw [← HJ.out]; simp))
      go_wp2_with fail
      refine (impl_ReadJournal (c :: r) _ rfl _ (HE.out.below HB.out) (by omega)).mono ?_
      rintro e w5 ⟨v5, n5, rfl, hn5, ho5, hb⟩
      rw [HR.out] at hn5 ho5
      have hn : n5 = ((c :: r).length : Int) := hn5
      subst hn
      have hs5 := hb.size
      replace HA := Lib.hid (SlA.below HA.out hb (by omega))
      replace HB := Lib.hid (HB.out.trans (hb.mono HB.out.size))
      have HO := Lib.hid (OwnA.sl ho5)
      obtain ⟨qa, qc, rfl, _⟩ := Own.open ho5
      clear hb ho5 hn5
      go_wp2_with fail
      refine (sameActs_same _ _ _ _ _ _ acts _ HO.out HA.out (by omega)).mono ?_
      rintro e w6 ⟨rfl, hb⟩
      replace HB := Lib.hid (HB.out.trans (hb.mono HB.out.size))
      clear hb
      go_wp2
      go_ret
      exact ⟨rfl, HB.out⟩
  · clear hE
    go_enter Tryz.func10, Tryz.ntmps10
    go_wp2
    go_ret
    exact ⟨rfl, Below.refl _ _⟩
end Go.Proofs.YtagjpecibpejmaaGreatDoor
