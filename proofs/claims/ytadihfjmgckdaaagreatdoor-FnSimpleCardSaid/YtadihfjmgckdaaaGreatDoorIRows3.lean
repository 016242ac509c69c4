/-
  Texts of walks and plain lemmas for this seat; no condition.
-/
import Derived.Test.YtadihfjmgckdaaaGreatDoorIRows2
namespace Go.Proofs.YtadihfjmgckdaaaGreatDoor
open Go.RowKit

theorem indexFuncL (lo hi : Nat) (v c : Value) (xss : List (List Int)) (p : List Int → Bool) (w : World) (hx : SlLL lo hi w v xss) (hh : hi ≤ w.heap.size) (hm : xss.length ≤ 1048576)
    (hf : ∀ i (h : i < xss.length) u w', Below w.heap.size w w' → SlI lo hi w' u xss[i] → Calls Tryz.prog 95 #[u, c] w' fun e w'' => e = .returned (.bool (p xss[i])) ∧ Below w'.heap.size w' w'') :
    Calls Tryz.prog 123 #[v, .func (.func 95) #[] #[c]] w fun e w' => e = .returned (.int .i64 (idxP p xss)) ∧ Below w.heap.size w w' := by
  have HF := Lib.hid hf
  have HX := Lib.hid hx
  obtain ⟨a, cap, rfl, hcap, hcm⟩ := hx.shape
  unfold maxLen at hcm
  clear hx hf
  go_enter Tryz.func123, Tryz.ntmps123
  go_wp2
  go_loopw [8] (fun i wr => ∃ j : Nat, j ≤ xss.length ∧ i = .int .i64 j ∧ Hid (Below w.heap.size w wr ∧ ∀ n, n < j → ∀ h : n < xss.length, p xss[n] = false)) (fun i _ => xss.length - (intOf i).toNat)
  case atStart => exact ⟨0, by omega, rfl, Lib.hid ⟨Below.refl _ _, fun n h => by omega⟩⟩
  case round =>
    obtain ⟨j, hj, rfl, HQ⟩ := hrel
    by_cases hlt : j < xss.length
    · obtain ⟨b, off, u, rfl, _, _, _, hcell, hu⟩ := (HX.out.below HQ.out.1 hh).get j hlt
      have HC := Lib.hid (HF.out j hlt u wr HQ.out.1 hu)
      clear hu
      go_wp2_with fail
      refine HC.out.mono ?_
      rintro e w1 ⟨rfl, hb⟩
      have HB := Lib.hid (HQ.out.1.trans (hb.mono HQ.out.1.size))
      clear hb HC
      cases hp : p xss[j]
      · have HN : Hid (∀ n, n < j + 1 → ∀ h : n < xss.length, p xss[n] = false) := Lib.hid fun n hn h => by
          by_cases e : n = j
          · subst e; exact hp
          · exact HQ.out.2 n (by omega) h
        clear hp
        go_wp2
        go_roundw
        case rel => exact ⟨j + 1, by omega, by go_num, Lib.hid ⟨HB.out, HN.out⟩⟩
        case measure => simp [intOf]; omega
      · have HI := Lib.hid (idxP_at p xss j hlt hp HQ.out.2)
        clear hp
        go_wp2
        go_ret
        exact ⟨ret_int HI.out.symm, HB.out⟩
    · have HI := Lib.hid (idxP_none p xss fun n h => HQ.out.2 n (by omega) h)
      go_wp2
      go_ret
      exact ⟨ret_int HI.out.symm, HQ.out.1⟩
theorem containsFuncL (lo hi : Nat) (v c : Value) (xss : List (List Int)) (p : List Int → Bool) (w : World) (hx : SlLL lo hi w v xss) (hh : hi ≤ w.heap.size) (hm : xss.length ≤ 1048576)
    (hf : ∀ i (h : i < xss.length) u w', Below w.heap.size w w' → SlI lo hi w' u xss[i] → Calls Tryz.prog 95 #[u, c] w' fun e w'' => e = .returned (.bool (p xss[i])) ∧ Below w'.heap.size w' w'') :
    Calls Tryz.prog 74 #[v, .func (.func 95) #[] #[c]] w fun e w' => e = .returned (.bool (xss.any p)) ∧ Below w.heap.size w w' := by
  have HC := Lib.hid (indexFuncL lo hi v c xss p w hx hh hm hf)
  have HI := Lib.hid (idxP_any p xss)
  clear hf hx
  go_enter Tryz.func74, Tryz.ntmps74
  go_wp2_with fail
  refine HC.out.mono ?_
  rintro e w1 ⟨rfl, hb⟩
  have HB := Lib.hid hb
  clear hb HC
  go_wp2
  go_ret
  exact ⟨ret_bool HI.out, HB.out⟩
theorem modelValid_fn (lo hi g : Nat) (M : Mo) (va u : Value) (xs : List Int) (w : World) (hk : Blk g (.cells #[.int .i64 M.n, .int .i64 M.p, .int .i64 M.q, va] 31) w) (hu : SlI lo hi w u xs) (hh : hi ≤ w.heap.size) (hm : xs.length ≤ 1048576) :
    Calls Tryz.prog 95 #[u, .pointer (some ⟨g, 0, none⟩)] w fun e w' => e = .returned (.bool (!rowsB M.n xs)) ∧ Below w.heap.size w w' := by
  have c0 := hk.cell 0
  have HC := Lib.hid (implRowsValid lo hi M.n u xs w hu hh hm)
  clear hk hu
  go_enter Tryz.func95, Tryz.ntmps95
  go_wp2_with fail
  refine HC.out.mono ?_
  rintro e w1 ⟨rfl, hb⟩
  have HB := Lib.hid hb
  clear hb HC
  go_wp2
  go_ret
  exact ⟨rfl, HB.out⟩
theorem modB_any (M : Mo) (h1 : inB M.n 1 5 = true) (h2 : isSetB M.n M.p = true) (h3 : isSetB M.n M.q = true) (h4 : M.acts.length = 3) : modB M = !M.acts.any (fun x => !rowsB M.n x) := by
  simp only [modB, h1, h2, h3, h4, Bool.true_and, decide_true, List.not_any_eq_all_not, Bool.not_not]
theorem implModelValid (lo hi : Nat) (M : Mo) (va : Value) (w : World) (hx : SlLL lo hi w va M.acts) (hh : hi ≤ w.heap.size) (hm : M.acts.length ≤ 1048576) (hm2 : ∀ x ∈ M.acts, x.length ≤ 1048576) :
    Calls Tryz.prog 49 #[aggMo M va] w fun e w' => e = .returned (.bool (modB M)) ∧ Below w.heap.size w w' := by
  obtain ⟨n, P, Q, acts⟩ := M
  have HX := Lib.hid hx
  obtain ⟨a, cap, rfl, hcap, hcm⟩ := hx.shape
  unfold maxLen at hcm
  have HM := Lib.hid hm2
  simp only at hm hcap hcm
  clear hx hm2
  have HBA := Lib.hid ((Below.refl w.heap.size w).alloc (Nat.le_refl _) (.cells #[.int .i64 n, .int .i64 P, .int .i64 Q, .slice a acts.length cap] 31))
  cases h1 : inB n 1 5
  · go_enter Tryz.func49, Tryz.ntmps49
    go_wp2_with (go_at_call 93; refine (hasStates_any _ _).mono ?_; rintro e w' ⟨rfl, rfl⟩)
    go_ret
    exact ⟨ret_bool (by simp [modB, h1]), HBA.out⟩
  · cases h2 : isSetB n P
    · go_enter Tryz.func49, Tryz.ntmps49
      go_wp2_with (first | (go_at_call 93; refine (hasStates_any _ _).mono ?_; rintro e w' ⟨rfl, rfl⟩) | (go_at_call 94; refine (isSet_any _ _ h1 _).mono ?_; rintro e w' ⟨rfl, rfl⟩))
      go_ret
      exact ⟨ret_bool (by simp [modB, h2]), HBA.out⟩
    · cases h3 : isSetB n Q
      · have hne : n = n := rfl
        go_enter Tryz.func49, Tryz.ntmps49
        go_wp2_with (first | (go_at_call 93; refine (hasStates_any _ _).mono ?_; rintro e w' ⟨rfl, rfl⟩) | (go_at_call 94; refine (isSet_any _ _ h1 _).mono ?_; rintro e w' ⟨rfl, rfl⟩))
        go_ret
        exact ⟨ret_bool (by simp [modB, h3]), HBA.out⟩
      · by_cases h4 : acts.length = 3
        · have HF := Lib.hid (modB_any ⟨n, P, Q, acts⟩ h1 h2 h3 h4)
          have HK := Lib.hid (Blk.new w (.cells #[.int .i64 n, .int .i64 P, .int .i64 Q, .slice a acts.length cap] 31))
          have hle : ((acts.length : Int) != 3) = false := by simp [h4]
          clear h4
          go_enter Tryz.func49, Tryz.ntmps49
          go_wp2_with (first | (go_at_call 93; refine (hasStates_any _ _).mono ?_; rintro e w' ⟨rfl, rfl⟩) | (go_at_call 94; refine (isSet_any _ _ h1 _).mono ?_; rintro e w' ⟨rfl, rfl⟩))
          refine (containsFuncL lo hi _ _ acts (fun x => !rowsB n x) _ (HX.out.below HBA.out hh) (by simp; omega) hm fun i h u w' hb hu => modelValid_fn lo hi w.heap.size ⟨n, P, Q, acts⟩ _ u acts[i] w' (HK.out.below hb (by simp)) hu (Nat.le_trans (Nat.le_trans hh (by simp)) hb.size) (HM.out _ (List.getElem_mem h))).mono ?_
          rintro e w2 ⟨rfl, hb⟩
          have HB := Lib.hid (HBA.out.trans (hb.mono (by simp)))
          clear hb
          go_wp2
          go_ret
          exact ⟨ret_bool HF.out.symm, HB.out⟩
        · have hle : ((acts.length : Int) != 3) = true := by simp; omega
          go_enter Tryz.func49, Tryz.ntmps49
          go_wp2_with (first | (go_at_call 93; refine (hasStates_any _ _).mono ?_; rintro e w' ⟨rfl, rfl⟩) | (go_at_call 94; refine (isSet_any _ _ h1 _).mono ?_; rintro e w' ⟨rfl, rfl⟩))
          go_ret
          exact ⟨ret_bool (by simp [modB, h4]), HBA.out⟩
end Go.Proofs.YtadihfjmgckdaaaGreatDoor
