/-
  Texts of walks and plain lemmas for this seat; no condition.
-/
import Derived.Test.YtkdgpbnngkljkaaDoorRJour
import Derived.Test.YtkdgpbnngkljkaaDoorRAct2
import Derived.Deep.RegionWith
namespace Go.Proofs.YtkdgpbnngkljkaaDoor
open Go.RowKit

theorem extM (l : List UInt8) (n k : Nat) : ByteArray.extract ⟨l.toArray⟩ n k = ⟨((l.drop n).take (k - n)).toArray⟩ := by
  apply ByteArray.ext
  simp [ByteArray.data_extract]
theorem at10 (l : List UInt8) (k : Nat) (_hk : k < l.length) (h : k < (ByteArray.mk l.toArray).size) : ((((ByteArray.mk l.toArray)[k]'h).toNat : Int) == 10) = (l[k] == 10) := by
  rw [show (ByteArray.mk l.toArray)[k]'h = l[k] from rfl, Bool.eq_iff_iff]
  simp only [beq_iff_eq]
  constructor
  · intro h; apply UInt8.toNat_inj.1; simpa using (by omega : l[k].toNat = 10)
  · intro h; rw [h]; rfl
theorem nl_at {l : List UInt8} {f k : Nat} (hf : f ≤ k) (h1 : l[k]? = some 10) (h2 : ∀ j, f ≤ j → j < k → l[j]? ≠ some 10) : nl (l.drop f) = some (k - f) := by
  refine nl_of ?_ fun j hj => ?_
  · rw [List.getElem?_drop, show f + (k - f) = k by omega]; exact h1
  · rw [List.getElem?_drop]; exact h2 _ (by omega) (by omega)
theorem nl_end {l : List UInt8} {f : Nat} (h2 : ∀ j, f ≤ j → j < l.length → l[j]? ≠ some 10) : nl (l.drop f) = none := by
  refine nl_not fun j hj => ?_
  rw [List.length_drop] at hj
  rw [List.getElem?_drop]; exact h2 _ (by omega) (by omega)

set_option maxRecDepth 100000 in
set_option maxHeartbeats 3200000 in
theorem spec_ReadJournal (l : List UInt8) (s : ByteArray) (hs : s = ⟨l.toArray⟩) (w : World) (hl : l.length ≤ 2097152) :
    Calls Tryd.prog 19 #[.string s] w (RetJ fun v n w' => n = (readJr l).2 ∧ OwnA w.heap.size w'.heap.size 35 w' v (readJr l).1 ∧ Below w.heap.size w w') := by
  subst hs
  have H0 : Hid (OwnA w.heap.size (w.alloc (.cells #[] 35)).heap.size 35 (w.alloc (.cells #[] 35)) (.slice (some ⟨w.heap.size, 0, none⟩) 0 0) []) := Lib.hid (by rw [alloc_size]; exact Own.lit 5 35 w [] 0 (by omega) rfl)
  have HB0 : Hid (Below w.heap.size w (w.alloc (.cells #[] 35))) := Lib.hid ((Below.refl _ _).alloc (Nat.le_refl _) _)
  go_enter Tryd.func19, Tryd.ntmps19
  go_wp2
  go_loopw [4, 5, 6] (fun v i c wr => ∃ f k : Nat, ∃ xs : List Ac, f ≤ k ∧ k ≤ l.length ∧ i = .int .i64 f ∧ c = .int .i64 k ∧ xs.length ≤ f ∧ Hid (readJr l = (xs ++ (readJr (l.drop f)).1, f + (readJr (l.drop f)).2)) ∧ Hid (∀ j, f ≤ j → j < k → l[j]? ≠ some 10) ∧ Hid (OwnA w.heap.size wr.heap.size 35 wr v xs) ∧ Hid (Below w.heap.size w wr)) (fun _ _ c _ => l.length - (intOf c).toNat)
  case atStart => exact ⟨0, 0, [], Nat.le_refl _, by omega, rfl, rfl, Nat.le_refl _, Lib.hid (by simp), Lib.hid (by omega), H0, HB0⟩
  case round =>
    clear H0 HB0
    obtain ⟨f, k, xs, hfk, hk, rfl, rfl, hxs, HJ, HNo, HO, HB⟩ := hrel
    by_cases hlt : k < l.length
    · have hks : k < (ByteArray.mk l.toArray).size := by show k < l.toArray.size; simpa using hlt
      cases h10 : l[k] == 10 with
      | false =>
        have ht : ((((ByteArray.mk l.toArray)[k]'hks).toNat : Int) == 10) = false := by rw [at10 l k hlt, h10]
        have HN' : Hid (∀ j, f ≤ j → j < k + 1 → l[j]? ≠ some 10) := Lib.hid (by
          intro j h1 h2
          by_cases hj : j < k
          · exact HNo.out j h1 hj
          · obtain rfl : j = k := by omega
            rw [List.getElem?_eq_getElem hlt]
            intro e; injection e with e; rw [e] at h10; cases h10)
        clear h10
        go_wp2
        go_roundw
        case rel => exact ⟨f, k + 1, xs, by omega, by omega, rfl, by go_num, hxs, HJ, HN', HO, HB⟩
        case measure => simp [intOf]; omega
      | true =>
        have ht : ((((ByteArray.mk l.toArray)[k]'hks).toNat : Int) == 10) = true := by rw [at10 l k hlt, h10]
        have HNL := Lib.hid (nl_at hfk (by rw [List.getElem?_eq_getElem hlt]; congr 1; simpa using h10) HNo.out)
        clear h10
        obtain ⟨p, hp⟩ : ∃ p, p = (l.drop f).take (k - f) := ⟨_, rfl⟩
        have hln : p.length ≤ 2097152 := by rw [hp, List.length_take, List.length_drop]; omega
        have hpe := extM l f k
        rw [← hp] at hpe
        have HP := Lib.hid hp
        clear hp
        have HPE := Lib.hid hpe
        clear hpe
        go_wp2_with fail
        refine (spec_ReadAct p _ HPE.out _ hln).mono ?_
        rintro e w2 ⟨rfl, hb⟩
        have hs2 := hb.size
        cases hra : readAc p with
        | none =>
          have HR := Lib.hid (jr_end HJ.out (readJr_bad HNL.out (by rw [← HP.out]; exact hra)))
          rw [rdAc_none]
          clear hra
          have hba : Below w2.heap.size w2 (w2.alloc (.cells #[.int .i64 0, .int .i64 0, .bool false, .int .i64 0, .int .i64 0] 35)) := (Below.refl _ _).alloc (Nat.le_refl _) _
          have hs0 := HB.out.size
          replace HB := Lib.hid ((HB.out.trans (hb.mono HB.out.size)).trans (hba.mono (by omega)))
          replace HO := Lib.hid (OwnA.below (OwnA.below HO.out hb (Nat.le_refl _)) hba (by omega))
          have HS : Hid (wr.heap.size ≤ (w2.alloc (.cells #[.int .i64 0, .int .i64 0, .bool false, .int .i64 0, .int .i64 0] 35)).heap.size) := Lib.hid (by simp; omega)
          clear hb hba
          go_wp2
          go_ret2
          refine ⟨_, _, rfl, ?_, ?_, HB.out⟩
          · rw [HR.out]
          · rw [HR.out]; exact Own.wide HO.out HS.out
        | some m =>
          have HR := Lib.hid (jr_step HJ.out HNL.out (by rw [← HP.out]; exact hra))
          rw [rdAc_some]
          clear hra
          have hs0 := HB.out.size
          replace HB := Lib.hid (HB.out.trans (hb.mono HB.out.size))
          have hown : OwnA w.heap.size wr.heap.size 35 (w2.alloc (.cells #[.int .i64 m.kind, .int .i64 m.step.which, .bool m.step.back, .int .i64 m.step.at_, .int .i64 m.count] 35)) u4 xs := OwnA.below (OwnA.below HO.out hb (Nat.le_refl _)) ((Below.refl w2.heap.size w2).alloc (Nat.le_refl _) (.cells #[.int .i64 m.kind, .int .i64 m.step.which, .bool m.step.back, .int .i64 m.step.at_, .int .i64 m.count] 35)) (by omega)
          clear hb HO
          go_wp2_with (at_builtin; refine wpList_app_lit (w2.alloc (.cells #[.int .i64 m.kind, .int .i64 m.step.which, .bool m.step.back, .int .i64 m.step.at_, .int .i64 m.count] 35)) rfl _ _ 39 rfl 35 (.agg #[.int .i64 0, .int .i64 0, .bool false, .int .i64 0, .int .i64 0]) 5 40 Tryd.underlying39 info_act rfl (by decide) (by decide) rfl hown 1 (encAc m) (by rw [alloc_size]; rfl) rfl (by simpa [acs] using acs_one [m]) rfl ?c1 ?c2 ?_)
          case c1 => omega
          case c2 => simp; omega
          intro v' w3 hown' hout _
          have HO' : Hid (OwnA w.heap.size w3.heap.size 35 w3 v' (xs ++ [m])) := by
            refine Lib.hid ?_
            unfold OwnA
            rw [List.length_append, show acs (xs ++ [m]) = acs xs ++ encAc m by simp [acs]]
            exact hown'
          have hba : Below w2.heap.size w2 (w2.alloc (.cells #[.int .i64 m.kind, .int .i64 m.step.which, .bool m.step.back, .int .i64 m.step.at_, .int .i64 m.count] 35)) := (Below.refl _ _).alloc (Nat.le_refl _) _
          have HB' := Lib.hid (Below.outside (HB.out.trans (hba.mono (by omega))) hout (Nat.le_refl _) (by simp; omega))
          clear hown hown' hout hba
          rw [show f + (k - f + 1) = k + 1 by omega] at HR
          go_wp2
          go_roundw
          case rel => exact ⟨k + 1, k + 1, xs ++ [m], by omega, by omega, by go_num, by go_num, by simp; omega, HR, Lib.hid (by omega), HO', HB'⟩
          case measure => simp [intOf]; omega
    · obtain rfl : k = l.length := by omega
      have HR := Lib.hid (jr_end HJ.out (readJr_no (nl_end HNo.out)))
      go_wp2
      go_ret2
      refine ⟨_, _, rfl, ?_, ?_, HB.out⟩
      · rw [HR.out]
      · rw [HR.out]; exact HO.out
end Go.Proofs.YtkdgpbnngkljkaaDoor
