/-
  Texts of walks and plain lemmas for this seat; no condition.
-/
import Derived.Test.YtagjpecibpejmaaGreatDoorGI
namespace Go.Proofs.YtagjpecibpejmaaGreatDoor
open Go.RowKit

/-- The rules that fit at a step, of the first k. -/
def atV (e : List Int) (at_ : Int) : Nat → List Int
  | 0 => []
  | k + 1 => atV e at_ k ++ (if (moveV e ⟨(k : Nat), false, at_⟩).isSome then [(k : Int)] else [])
theorem atV_len (e : List Int) (at_ : Int) : ∀ k, (atV e at_ k).length ≤ k
  | 0 => Nat.le_refl _
  | k + 1 => by
    have := atV_len e at_ k
    simp only [atV, List.length_append]
    split <;> simp <;> omega
theorem atV_some {e : List Int} {at_ : Int} {k : Nat} {x : List Int} (h : moveV e ⟨(k : Nat), false, at_⟩ = some x) : atV e at_ (k + 1) = atV e at_ k ++ [(k : Int)] := by simp [atV, h]
theorem atV_none {e : List Int} {at_ : Int} {k : Nat} (h : moveV e ⟨(k : Nat), false, at_⟩ = none) : atV e at_ (k + 1) = atV e at_ k := by simp [atV, h]
theorem atV_bad {e : List Int} (at_ : Int) (h : katV e = false) : ∀ k, atV e at_ k = []
  | 0 => rfl
  | k + 1 => by rw [atV_none (moveV_kat h), atV_bad at_ h k]

set_option maxRecDepth 100000 in
set_option maxHeartbeats 1600000 in
theorem impl_MovesAt (ve : Value) (e : List Int) (at_ : Int) (w : World) (hE : EnvK w) (hx : RdI w ve e) (hm : e.length ≤ 1048576) :
    Calls Tryz.prog 26 #[ve, .int .i64 at_] w (RetV fun v w' => Below w.heap.size w w' ∧ OwnI w.heap.size w'.heap.size 3 w' v (atV e at_ 21)) := by
  have HX := Lib.hid hx
  have HE := Lib.hid hE
  obtain ⟨ea, ecap, rfl, _⟩ := hx.open
  clear hx hE
  cases hkv : katV e
  · have HR := Lib.hid (atV_bad at_ hkv 21)
    go_enter Tryz.func26, Tryz.ntmps26
    go_wp2_with fail
    refine (impl_KatValid _ _ _ e _ HX.out hm).mono ?_
    rintro e1 w1 ⟨rfl, rfl⟩
    rw [hkv]
    go_wp2
    go_ret
    exact RetV.mk _ rfl ⟨Below.refl _ _, by rw [HR.out]; exact Own.nil _ _ _ _ _⟩
  · have HKV := Lib.hid hkv
    go_enter Tryz.func26, Tryz.ntmps26
    go_wp2_with fail
    refine (impl_KatValid _ _ _ e _ HX.out hm).mono ?_
    rintro e1 w1 ⟨rfl, rfl⟩
    rw [hkv]
    clear hkv
    go_wp2
    go_loopw [5, 12] (fun v i wr => ∃ (k : Nat), k ≤ 21 ∧ i = .int .i64 k ∧ Hid (OwnI w.heap.size wr.heap.size 3 wr v (atV e at_ k) ∧ Below w.heap.size w wr)) (fun _ i _ => 21 - (intOf i).toNat)
    case atStart => exact ⟨0, by omega, rfl, Lib.hid ⟨Own.nil _ _ _ _ _, Below.refl _ _⟩⟩
    case round =>
      obtain ⟨k, hk, rfl, HQ⟩ := hrel
      obtain ⟨oa, oc, rfl, _⟩ := Own.open HQ.out.1
      have HB := Lib.hid HQ.out.2
      have hsz := HB.out.size
      by_cases hlt : k < 21
      · have hlen := atV_len e at_ k
        have HO := Lib.hid HQ.out.1
        clear HQ
        go_wp2_with fail
        refine (do_any _ e ⟨(k : Nat), false, at_⟩ wr (HE.out.below HB.out) (HX.out.below HB.out) HKV.out).mono ?_
        rintro e3 w3 ⟨v3, x3, rfl, hb3, hres⟩
        have HB3 := Lib.hid (HB.out.trans (hb3.mono hsz))
        have HO3 := Lib.hid (HO.out.below hb3 (Nat.le_refl _))
        have hs3 := hb3.size
        clear hb3 HO HB
        cases hmv : moveV e ⟨(k : Nat), false, at_⟩ with
        | none =>
          rw [hmv] at hres
          obtain ⟨rfl, g, rfl, _⟩ := hres
          have HN := Lib.hid (atV_none hmv)
          clear hmv
          go_wp2
          go_roundw
          case rel => exact ⟨k + 1, by omega, by go_num, Lib.hid ⟨by rw [HN.out]; exact Own.wide HO3.out hs3, HB3.out⟩⟩
          case measure => simp [intOf]; omega
        | some y =>
          rw [hmv] at hres
          obtain ⟨rfl, ho3⟩ := hres
          obtain ⟨ya, yc, rfl, _⟩ := Own.open ho3
          have HN := Lib.hid (atV_some hmv)
          clear hmv ho3
          go_wp2_with (at_builtin; go_loud (refine wpList_app_lit w3 rfl _ _ 24 rfl 3 (.int .i64 0) 1 8 Tryz.underlying24 info_int rfl (by decide) (by decide) rfl HO3.out 1 (ints [(k : Int)]) rfl rfl (ints_one _) rfl (by omega) (by omega) ?_))
          intro v4 w4 ho4 hout4 _
          have H4 : Hid (OwnI w.heap.size w4.heap.size 3 w4 v4 (atV e at_ (k + 1))) := by
            rw [HN.out]
            refine Lib.hid ?_
            unfold OwnI
            rw [List.length_append, ints_append]
            exact ho4
          have HB4 := Lib.hid (Below.outside HB3.out hout4 (Nat.le_refl _) HB3.out.size)
          obtain ⟨za, zc, rfl, _⟩ := Own.open ho4
          clear ho4 hout4
          go_wp2
          go_roundw
          case rel => exact ⟨k + 1, by omega, by go_num, Lib.hid ⟨H4.out, HB4.out⟩⟩
          case measure => simp [intOf]; omega
      · obtain rfl : k = 21 := by omega
        go_wp2
        go_ret
        exact RetV.mk _ rfl ⟨HB.out, HQ.out.1⟩

set_option maxRecDepth 100000 in
set_option maxHeartbeats 1600000 in
theorem spec_MovesAt (ve : Value) (e : List Int) (at_ : Int) (w : World) (hx : RdI w ve e) (hm : e.length ≤ 1048576) :
    Calls Tryz.prog 30 #[ve, .int .i64 at_] w (RetV fun v w' => Below w.heap.size w w' ∧ OwnI w.heap.size w'.heap.size 3 w' v (atV e at_ 21)) := by
  have HX := Lib.hid hx
  obtain ⟨ea, ecap, rfl, _⟩ := hx.open
  have HOL : Hid (Own 1 w.heap.size (w.heap.size + 1) 3 (w.alloc (.cells #[] 3)) (.slice (some ⟨w.heap.size, 0, none⟩) 0 0) 0 (ints [])) := Lib.hid (Own.lit 1 3 w (ints []) 0 (by omega) rfl)
  have HA := Lib.hid ((Below.refl w.heap.size w).alloc (Nat.le_refl _) (.cells #[] 3))
  clear hx
  go_enter Tryz.func30, Tryz.ntmps30
  go_wp2
  go_loopw [5, 6] (fun v i wr => ∃ (k : Nat), k ≤ 21 ∧ i = .int .i64 k ∧ Hid (OwnI w.heap.size wr.heap.size 3 wr v (atV e at_ k) ∧ Below w.heap.size w wr)) (fun _ i _ => 21 - (intOf i).toNat)
  case atStart => exact ⟨0, by omega, rfl, Lib.hid ⟨Own.wide HOL.out (by simp), HA.out⟩⟩
  case round =>
    obtain ⟨k, hk, rfl, HQ⟩ := hrel
    obtain ⟨oa, oc, rfl, _⟩ := Own.open HQ.out.1
    have HB := Lib.hid HQ.out.2
    have hsz := HB.out.size
    by_cases hlt : k < 21
    · have hlen := atV_len e at_ k
      have HO := Lib.hid HQ.out.1
      clear HQ
      go_wp2_with fail
      refine (spec_MoveDo _ e ⟨(k : Nat), false, at_⟩ wr (HX.out.below HB.out) hm).mono ?_
      rintro e3 w3 ⟨v3, b3, rfl, hb3, rfl, ho3⟩
      have HB3 := Lib.hid (HB.out.trans (hb3.mono hsz))
      have HO3 := Lib.hid (HO.out.below hb3 (Nat.le_refl _))
      have hs3 := hb3.size
      obtain ⟨ya, yc, rfl, _⟩ := Own.open ho3
      clear hb3 HO HB ho3
      cases hmv : moveV e ⟨(k : Nat), false, at_⟩ with
      | none =>
        have HN := Lib.hid (atV_none hmv)
        clear hmv
        simp only [Option.isSome_none]
        go_wp2
        go_roundw
        case rel => exact ⟨k + 1, by omega, by go_num, Lib.hid ⟨by rw [HN.out]; exact Own.wide HO3.out hs3, HB3.out⟩⟩
        case measure => simp [intOf]; omega
      | some y =>
        have HN := Lib.hid (atV_some hmv)
        clear hmv
        simp only [Option.isSome_some]
        go_wp2_with (at_builtin; go_loud (refine wpList_app_lit w3 rfl _ _ 24 rfl 3 (.int .i64 0) 1 8 Tryz.underlying24 info_int rfl (by decide) (by decide) rfl HO3.out 1 (ints [(k : Int)]) rfl rfl (ints_one _) rfl (by omega) (by omega) ?_))
        intro v4 w4 ho4 hout4 _
        have H4 : Hid (OwnI w.heap.size w4.heap.size 3 w4 v4 (atV e at_ (k + 1))) := by
          rw [HN.out]
          refine Lib.hid ?_
          unfold OwnI
          rw [List.length_append, ints_append]
          exact ho4
        have HB4 := Lib.hid (Below.outside HB3.out hout4 (Nat.le_refl _) HB3.out.size)
        obtain ⟨za, zc, rfl, _⟩ := Own.open ho4
        clear ho4 hout4
        go_wp2
        go_roundw
        case rel => exact ⟨k + 1, by omega, by go_num, Lib.hid ⟨H4.out, HB4.out⟩⟩
        case measure => simp [intOf]; omega
    · obtain rfl : k = 21 := by omega
      go_wp2
      go_ret
      exact RetV.mk _ rfl ⟨HB.out, HQ.out.1⟩
end Go.Proofs.YtagjpecibpejmaaGreatDoor
