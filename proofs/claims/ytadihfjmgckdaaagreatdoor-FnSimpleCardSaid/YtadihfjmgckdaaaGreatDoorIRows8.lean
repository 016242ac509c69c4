/-
  Texts of walks and plain lemmas for this seat; no condition.
-/
import Derived.Test.YtadihfjmgckdaaaGreatDoorIRows7
import Derived.Test.YtadihfjmgckdaaaGreatDoorDKat
import Derived.Deep.RegionHeld3
import Derived.Deep.DeepCutAuto
import Derived.Deep.DrawnRows
namespace Go.Proofs.YtadihfjmgckdaaaGreatDoor
open Go.RowKit

theorem Blk.dr {g : Nat} {o : Obj} {w : World} (h : Blk g o w) : Blk g o w.drew := h
def testR (M : Mo) (t n : Nat) : List Int := (List.range n).map fun k => ((tstT M t n &&& 2 ^ k : Nat) : Int)
theorem testR_rows (M : Mo) (t n : Nat) (ht : t < 16) : testR M t n = rowsR n (leafM M (t : Int)) := by
  unfold testR rowsR
  apply List.map_congr_left
  intro s hs
  have hs : s < n := by simpa using hs
  congr 1
  refine bitsN_eq (Nat.lt_of_le_of_lt Nat.and_le_left (tstT_lt M t n)) fun k hk => ?_
  rw [Nat.testBit_and, Bool.and_eq_true, tstT_bit, Nat.testBit_two_pow, decide_eq_true_eq, leafM_test (by omega), Int.toNat_natCast]
  constructor
  · rintro ⟨⟨_, h⟩, rfl⟩; exact ⟨rfl, h⟩
  · rintro ⟨rfl, h⟩; exact ⟨⟨hs, h⟩, rfl⟩
set_option maxRecDepth 100000 in
set_option maxHeartbeats 3200000 in
theorem testRows_any (M : Mo) (va : Value) (t n p q : Nat) (w : World) (hn : M.n = n) (hn5 : n ≤ 5) (hp : M.p = p) (hq : M.q = q) (hp2 : p < 1099511627776) (hq2 : q < 1099511627776) (ht : t < 16) (hva : ∃ a m c, va = .slice a m c) :
    Calls Tryz.prog 101 #[aggMo M va, .int .i64 t] w (RowsNew w (testR M t n)) := by
  obtain ⟨n', P, Q, acts⟩ := M
  obtain ⟨sa, sm, sc, rfl⟩ := hva
  simp only at hn hp hq
  subst hn hp hq
  obtain ⟨i0, hi, hz0, hz1, hz2⟩ := info_parts info_int
  obtain ⟨T, hT⟩ : ∃ T, T = tstT (⟨(n : Int), (p : Int), (q : Int), acts⟩ : Mo) t n := ⟨_, rfl⟩
  have hT5 : T < 32 := by rw [hT]; exact Nat.lt_of_lt_of_le (tstT_lt _ t n) (Nat.pow_le_pow_right (n := 2) (by omega) hn5)
  obtain ⟨zs, hzs⟩ : ∃ zs, zs = testR (⟨(n : Int), (p : Int), (q : Int), acts⟩ : Mo) t n := ⟨_, rfl⟩
  have HZL : Hid (zs.length = n) := Lib.hid (by rw [hzs]; simp [testR])
  have HZ : Hid (∀ k (h : k < n), zs[k]? = some ((T &&& 2 ^ k : Nat) : Int)) := Lib.hid (by
    intro k h
    rw [hzs, hT]
    simp [testR, h])
  rw [← hzs]
  have HT := Lib.hid hT
  clear hzs hT
  obtain ⟨w0, hw0⟩ : ∃ w0, w0 = w.alloc (.cells #[.int .i64 n, .int .i64 (p : Int), .int .i64 (q : Int), .slice sa sm sc] 31) := ⟨_, rfl⟩
  obtain ⟨hb0, KB_, hs0⟩ := box_facts3 hw0
  have KB := Lib.hid KB_
  have HB := Lib.hid hb0
  have HW := Lib.hid hw0
  clear hb0 KB_ hw0
  have k0 := KB.out.cell 0
  have hn0 : (0 : Int) ≤ (n : Int) := by omega
  go_enter Tryz.func101, Tryz.ntmps101
  go_upto_region 1 with (rw [← HW.out])
  try rw [← HW.out]
  go_wp2_with ((at_make; refine wpList_make_full _ rfl _ _ 23 rfl w0.heap.size 3 i0 (.int .i64 0) 1 Tryz.underlying23 hi hz0 hz1 .i64 .i64 n n n rfl rfl rfl rfl ?c1 ?c2 ?c3 ?c4))
  case c1 => rw [hz2]; omega
  case c2 => simp [maxLen]; omega
  case c3 => exact Nat.le_refl _
  case c4 =>
    intro w1 hown hg
    have hb1 : Below w0.heap.size w0 w1 := (Below.refl _ _).grown hg (Nat.le_refl _) (by simp)
    rw [toList_madeCells_one] at hown
    have hs1 := hb1.size
    have k0 := (KB.out.below hb1 KB.out.lt).cell 0
    have HOWN := Lib.hid hown
    have HB1 := Lib.hid hb1
    clear hg hi hz0 hz1 hz2 hown hb1
    go_wp2
    go_loopw [12] (fun i wr => ∃ k, k ≤ n ∧ i = .int .i64 k ∧ Hid (Own 1 w0.heap.size w1.heap.size 3 wr (.slice (some ⟨w0.heap.size, 0, none⟩) n n) n (fill (ints zs) (.int .i64 0) k) ∧ Below w0.heap.size w0 wr ∧ w1.heap.size ≤ wr.heap.size)) (fun i _ => n - (intOf i).toNat)
    case atStart => exact ⟨0, by omega, rfl, Lib.hid ⟨⟨by rw [fill_zero, ints_length, HZL.out]; exact HOWN.out, fun g hg => (HOWN.out.lt g hg).2⟩, HB1.out, Nat.le_refl _⟩⟩
    case round =>
      clear k0 HOWN HB1
      obtain ⟨k, hk, rfl, HQ⟩ := hrel
      have hsr := HQ.out.2.2
      by_cases hlt : k < n
      · have KR := Lib.hid (KB.out.below HQ.out.2.1 KB.out.lt)
        have hpw := pow_wrap (k := k) (by omega)
        have hk0 : (0 : Int) ≤ (k : Int) := by omega
        have hkn : (k : Int) < (n : Int) := by omega
        have hk5 : k ≤ 5 := by omega
        have HPL := Lib.hid (Nat.pow_lt_pow_right (a := 2) (by omega) (show k < 6 by omega))
        have HAND := Lib.hid (bits64_and T (2 ^ k) (by omega) (by have := HPL.out; omega))
        have HZk := Lib.hid (HZ.out k hlt)
        have d0 := (KR.out.dr).cell 0
        have d1 := (KR.out.dr).cell 1
        have d2 := (KR.out.dr).cell 2
        have d3 := (KR.out.dr).cell 3
        go_wp2
        go_region_with (go_at_call 143; refine (testStates_any (⟨(n : Int), (p : Int), (q : Int), acts⟩ : Mo) _ t n p q wr.drew rfl hn5 rfl rfl hp2 hq2 ht).mono ?_; rintro e w2 ⟨rfl, hb2⟩; rw [← HT.out]; (have hs2 : wr.heap.size ≤ w2.heap.size := hb2.size); (have ho2 := Own.below (w := wr.drew) ⟨HQ.out.1.1.drew, HQ.out.1.2⟩ hb2 hsr); (have c2 := ho2.1.cellAt k (by omega)); (have f2 := ho2.1.frozenAt k); obtain ⟨x2, c3⟩ : ∃ x, w2.cell? ⟨w0.heap.size, k, none⟩ = some x := ⟨.int .i64 0, by rw [c2]; exact fill_get _ _ _ (by rw [ints_length, HZL.out]; exact hlt)⟩; (have kb2 := Blk.below KR.out.dr hb2 KR.out.lt); (have e0 := kb2.cell 0); (have e1 := kb2.cell 1); (have e2 := kb2.cell 2); (have e3 := kb2.cell 3); (have O2 := Lib.hid ho2); (have HB2 := Lib.hid (HQ.out.2.1.drew.trans (hb2.mono (show w0.heap.size ≤ wr.drew.heap.size from Nat.le_trans hs1 hsr)))); clear ho2 hb2 kb2 c2)
        all_goals (
          have HS := Lib.hid (O2.out.1.stored k (.int .i64 ((T &&& 2 ^ k : Nat) : Int)))
          have HL2 := Lib.hid O2.out.2
          have HBS := Lib.hid (HB2.out.setCell (p := ⟨w0.heap.size, k, none⟩) (Nat.le_refl _) (.int .i64 ((T &&& 2 ^ k : Nat) : Int)))
          have hss : w1.heap.size ≤ (w2.setCell ⟨w0.heap.size, k, none⟩ (.int .i64 ((T &&& 2 ^ k : Nat) : Int))).heap.size := by simp; omega
          go_wp2
          go_roundw
          case rel =>
            refine ⟨k + 1, by omega, by go_num, ?_⟩
            rw [show bits .and .i64 ((T : Nat) : Int) (wrap64 (2 ^ k)) = ((T &&& 2 ^ k : Nat) : Int) by rw [hpw, HAND.out]]
            exact Lib.hid ⟨⟨by rw [← fill_set _ _ k (by rw [ints_length, HZL.out]; exact hlt) (.int .i64 ((T &&& 2 ^ k : Nat) : Int)) (by rw [ints, List.getElem?_map, HZk.out]; rfl)]; exact HS.out.1, HL2.out⟩, HBS.out, hss⟩
          case measure => simp [intOf]; omega)
      · obtain rfl : k = n := by omega
        have HOQ : Hid (OwnI w0.heap.size w1.heap.size 3 wr (.slice (some ⟨w0.heap.size, 0, none⟩) zs.length zs.length) zs) := Lib.hid (by
          have h_ := HQ.out.1
          rw [fill_all _ _ _ (by rw [ints_length, HZL.out]; exact Nat.le_refl _)] at h_
          rw [HZL.out]
          exact oi zs _ HZL.out.symm h_)
        have HV : Hid ((.slice (some ⟨w0.heap.size, 0, none⟩) k k : Value) = .slice (some ⟨w0.heap.size, 0, none⟩) zs.length zs.length) := Lib.hid (by rw [HZL.out])
        go_wp2
        go_ret
        exact RetV.mk _ rfl ⟨by rw [HV.out]; exact HOQ.out.lower (by omega) hsr, HB.out.trans (HQ.out.2.1.mono (by omega))⟩
end Go.Proofs.YtadihfjmgckdaaaGreatDoor
