/-
  Texts of walks and plain lemmas for this seat; no condition.
-/
import Derived.Test.YtoondakdjhhehaaDoorSTst
import Derived.Test.YtoondakdjhhehaaDoorGD
import Derived.Test.YtoondakdjhhehaaDoorGA
import Derived.Test.YtoondakdjhhehaaDoorSCode
import Derived.Deep.RegionHeld3
import Derived.Deep.DeepCutAuto
import Derived.Deep.DrawnRows
namespace Go.Proofs.YtoondakdjhhehaaDoor
open Go.RowKit
set_option linter.unusedVariables false

/-- What l7Rows does with an expression. -/
def RowsS (t : KT) : Prop := ∀ (lo hi la ha n p q : Nat) (acts : List (List Int)) (v va : Value) (w : World), MoOk n p q acts → SlLL la ha w va acts → ha ≤ w.heap.size → SlI lo hi w v t.post → hi ≤ w.heap.size → t.size ≤ 1000 → t.ok 0 = true →
  Calls Tryd.prog 57 #[aggMo (⟨(n : Int), (p : Int), (q : Int), acts⟩ : Mo) va, v] w (RowsNew w (rowsR n (den (leafM (⟨(n : Int), (p : Int), (q : Int), acts⟩ : Mo)) t)))
theorem MoOk.el {n p q : Nat} {acts : List (List Int)} (h : MoOk n p q acts) : ∀ x ∈ acts, x.length ≤ 1048576 := fun x hx => by
  obtain ⟨k, hk, rfl⟩ := List.getElem_of_mem hx
  have := (rowsB_small (h.rows k hk)).1
  have := h.n5
  simp at *; omega
theorem rows_relS {n : Nat} {rows : List Int} (h : rowsB (n : Int) rows = true) : rows = rowsR n (relOf rows) := by
  have := rows_rel h
  rwa [Int.toNat_natCast] at this
theorem bit_row (T k : Nat) : bitI T k = 0 ∧ ((T &&& 2 ^ k : Nat) : Int) = 0 ∨ bitI T k = 1 ∧ ((T &&& 2 ^ k : Nat) : Int) = ((2 ^ k : Nat) : Int) := by
  unfold bitI
  cases h : T.testBit k
  · refine .inl ⟨by simp, ?_⟩
    have : T &&& 2 ^ k = 0 := Nat.eq_of_testBit_eq fun i => by
      rw [Nat.testBit_and, Nat.testBit_two_pow, Nat.zero_testBit]
      by_cases e : k = i
      · subst e; simp [h]
      · simp [e]
    rw [this]; rfl
  · refine .inr ⟨by simp, ?_⟩
    congr 1
    exact Nat.eq_of_testBit_eq fun i => by
      rw [Nat.testBit_and, Nat.testBit_two_pow]
      by_cases e : k = i
      · subst e; simp [h]
      · simp [e]
theorem below_drewS (w : World) (m : Nat) : Below w.heap.size w (w.drewN m) := below_drewN (Below.refl _ _) m

set_option maxRecDepth 100000 in
set_option maxHeartbeats 3200000 in
theorem rowsS_act {a : Int} (h1 : 16 ≤ a) (h2 : a ≤ 18) : RowsS (.leaf a) := by
  intro lo hi la ha n p q acts v va w hM hA hha hx hhi hsz hok
  obtain ⟨sa, sc, rfl, _, _⟩ := hA.shape
  have HM := Lib.hid hM
  have HM2 := Lib.hid hM.el
  have hal : acts.length ≤ 3 := by have := hM.len; omega
  have hal3 : 3 ≤ acts.length := by have := hM.len; omega
  have hn5 := hM.n5
  obtain ⟨gM, hgM⟩ : ∃ gM, gM = w.heap.size := ⟨_, rfl⟩
  obtain ⟨w0, hw0⟩ : ∃ w0, w0 = w.alloc (.cells #[.int .i64 (n : Int), .int .i64 (p : Int), .int .i64 (q : Int), .slice sa acts.length sc] 25) := ⟨_, rfl⟩
  obtain ⟨hb0, KB_, hs0⟩ := box_facts3 hw0
  rw [← hgM] at KB_
  have KB := Lib.hid KB_
  have HB := Lib.hid hb0
  have HA := Lib.hid (hA.below hb0 hha)
  have hgl := KB.out.lt
  have HW := Lib.hid hw0
  have HGM := Lib.hid hgM
  have hgM2 : w.heap.size ≤ gM := by rw [hgM]; exact Nat.le_refl _
  have HD : Hid (rowsR n (den (leafM (⟨(n : Int), (p : Int), (q : Int), acts⟩ : Mo)) (.leaf a)) = acts.getD (a - 16).toNat []) := Lib.hid (by
    have hk : (a - 16).toNat < acts.length := by omega
    have hr := hM.rows _ hk
    have hg : acts.getD (a - 16).toNat [] = acts[(a - 16).toNat] := by rw [List.getD_eq_getElem?_getD, List.getElem?_eq_getElem hk, Option.getD_some]
    rw [hg, rows_relS hr]
    refine (rowsR_congr fun s t _ _ => ?_)
    rw [den_leaf, leafM_act (by omega)]
    simp only [hg])
  rw [HD.out]
  obtain ⟨j, hj⟩ : ∃ j : Nat, a = (16 + j : Nat) := ⟨(a - 16).toNat, by omega⟩
  have hj3 : j < 3 := by omega
  have hjl : j < acts.length := by omega
  obtain ⟨b, off, cap, rfl, hc1, hc2, hcell⟩ := last_cell (xs := []) (s := a) hx
  simp only [List.length_nil, Nat.zero_add, Nat.add_zero] at hc1 hcell ⊢
  have hc0 : w0.cell? ⟨b, off, none⟩ = some (.int .i64 a) := (hb0.cell (p := ⟨b, off, none⟩) (World.block_lt_of_cell? w _ hcell)).trans hcell
  obtain ⟨gb, ob, u, rfl, _, _, _, hcu, hu⟩ := HA.out.get j hjl
  have hul : acts[j].length ≤ 1048576 := HM2.out _ (List.getElem_mem hjl)
  have HR : Hid (acts.getD (a - 16).toNat [] = acts[j]) := Lib.hid (by
    rw [show (a - 16).toNat = j by omega, List.getD_eq_getElem?_getD, List.getElem?_eq_getElem hjl, Option.getD_some])
  rw [HR.out]
  obtain ⟨xs, hxs⟩ : ∃ xs, xs = acts[j] := ⟨_, rfl⟩
  rw [← hxs] at hu hul ⊢
  have HL0 : Hid (Own 1 w.heap.size (w0.alloc (.cells #[] 3)).heap.size 3 (w0.alloc (.cells #[] 3)) (.slice (some ⟨w0.heap.size, 0, none⟩) 0 0) 0 (ints [])) := Lib.hid ((Own.lit 1 3 w0 (ints []) 0 (by omega) rfl).wide2 (by omega) (by simp))
  have HB1 := Lib.hid (hb0.trans ((al_below w0 (.cells #[] 3)).mono (by omega)))
  have HU := Lib.hid (hu.below (al_below w0 (.cells #[] 3)) (by omega))
  have k3 := KB.out.cell 3
  have k3' := (KB.out.below (al_below w0 (.cells #[] 3)) hgl).cell 3
  have hcu' := ((al_below w0 (.cells #[] 3)).cell (p := ⟨gb, ob + j, none⟩) (World.block_lt_of_cell? w0 _ hcu)).trans hcu
  obtain ⟨ua, uc, rfl, _, _⟩ := hu.shape
  obtain ⟨w1, hw1⟩ : ∃ w1, w1 = w0.alloc (.cells #[] 3) := ⟨_, rfl⟩
  rw [← hw1] at HL0 HB1 HU k3' hcu'
  have hs1 : w.heap.size ≤ w1.heap.size := HB1.out.size
  have HW1 := Lib.hid hw1
  have e1 : a - 16 = (j : Int) := by omega
  have e2 : decide (a ≤ 15) = false := decide_eq_false (by omega)
  have e3 : decide (a ≤ 18) = true := decide_eq_true h2
  have e4 : IntKind.i64.wrap (j : Int) = j := wrap_i64_nat _ (by omega)
  have hjI : (j : Int) < (acts.length : Int) := by omega
  have hxl : xs.length ≤ 5 := by rw [hxs]; have := (rowsB_small (hM.rows j hjl)).1; simp at this; omega
  clear hM hA KB_ hb0 hw0 hgM hx hu hj hcell hxs hw1 HD HR hsz hok
  go_enter Tryd.func57, Tryd.ntmps57
  go_upto_region 1 with (rw [← HW.out])
  try rw [← HW.out]
  try rw [← HGM.out]
  go_wp2_with (first | rw [← HW1.out] | (at_builtin; go_loud (refine wpList_app_sl rfl _ _ 43 rfl 3 (.int .i64 0) 1 8 Tryd.underlying43 info_int rfl (by decide) (by decide) rfl HL0.out rfl HU.out (ints_one _) (by omega) hs1 ?_)))
  intro v5 w5 h5 _ ho5 _
  obtain ⟨a5, c5, rfl⟩ := Own.shape h5
  have HF : Hid (OwnI w.heap.size w5.heap.size 3 w5 (.slice a5 (0 + xs.length) c5) xs ∧ Below w.heap.size w w5) := Lib.hid ⟨by
    unfold OwnI
    have h := h5
    simp only [ints, List.map_nil, List.nil_append, Nat.zero_add] at h ⊢
    exact h, Below.outside HB1.out ho5 (Nat.le_refl _) hs1⟩
  clear h5 ho5
  go_wp2
  go_ret
  exact RetV.mk _ rfl ⟨by simpa using HF.out.1, HF.out.2⟩

set_option maxRecDepth 100000 in
set_option maxHeartbeats 3200000 in
theorem rowsS_test {t : Nat} (ht : t < 16) : RowsS (.leaf (t : Nat)) := by
  intro lo hi la ha n p q acts v va w hM hA hha hx hhi hsz hok
  obtain ⟨sa, sc, rfl, _, _⟩ := hA.shape
  have HM := Lib.hid hM
  have HM2 := Lib.hid hM.el
  have hal : acts.length ≤ 3 := by have := hM.len; omega
  have hal3 : 3 ≤ acts.length := by have := hM.len; omega
  have hn5 := hM.n5
  obtain ⟨gM, hgM⟩ : ∃ gM, gM = w.heap.size := ⟨_, rfl⟩
  obtain ⟨w0, hw0⟩ : ∃ w0, w0 = w.alloc (.cells #[.int .i64 (n : Int), .int .i64 (p : Int), .int .i64 (q : Int), .slice sa acts.length sc] 25) := ⟨_, rfl⟩
  obtain ⟨hb0, KB_, hs0⟩ := box_facts3 hw0
  rw [← hgM] at KB_
  have KB := Lib.hid KB_
  have HB := Lib.hid hb0
  have HA := Lib.hid (hA.below hb0 hha)
  have hgl := KB.out.lt
  have HW := Lib.hid hw0
  have HGM := Lib.hid hgM
  have hgM2 : w.heap.size ≤ gM := by rw [hgM]; exact Nat.le_refl _
  obtain ⟨zs, hzs⟩ : ∃ zs, zs = testR (⟨(n : Int), (p : Int), (q : Int), acts⟩ : Mo) t n := ⟨_, rfl⟩
  have HD : Hid (rowsR n (den (leafM (⟨(n : Int), (p : Int), (q : Int), acts⟩ : Mo)) (.leaf (t : Nat))) = zs) := Lib.hid (by rw [hzs, testR_rows _ _ _ ht]; rfl)
  obtain ⟨T, hT⟩ : ∃ T, T = tstT (⟨(n : Int), (p : Int), (q : Int), acts⟩ : Mo) t n := ⟨_, rfl⟩
  have hT5 : T < 32 := by rw [hT]; exact Nat.lt_of_lt_of_le (tstT_lt _ t n) (Nat.pow_le_pow_right (n := 2) (by omega) hn5)
  have HZL : Hid (zs.length = n) := Lib.hid (by rw [hzs]; simp [testR])
  have HZ : Hid (∀ k (h : k < n), zs[k]? = some ((T &&& 2 ^ k : Nat) : Int)) := Lib.hid (by
    intro k h
    rw [hzs, hT]
    simp [testR, h])
  have HTS : Hid (∀ w', SlLL la ha w' (.slice sa acts.length sc) acts → ha ≤ w'.heap.size → Calls Tryd.prog 81 #[.agg #[.int .i64 (n : Int), .int .i64 (p : Int), .int .i64 (q : Int), .slice sa acts.length sc], .int .i64 t] w' fun e w'' => e = .returned (.int .i64 (T : Nat)) ∧ Below w'.heap.size w' w'') := Lib.hid fun w' h1 h2 => by
    rw [hT]
    exact spec_TestStates la ha n p q t acts _ w' HM.out ht h1 h2 (by omega) HM2.out
  rw [HD.out]
  obtain ⟨b, off, cap, rfl, hc1, hc2, hcell⟩ := last_cell (xs := []) (s := (t : Int)) hx
  simp only [List.length_nil, Nat.zero_add, Nat.add_zero] at hc1 hcell ⊢
  have hc0 : w0.cell? ⟨b, off, none⟩ = some (.int .i64 (t : Nat)) := (hb0.cell (p := ⟨b, off, none⟩) (World.block_lt_of_cell? w _ hcell)).trans hcell
  have hc0' := ((al_below w0 (.cells #[] 3)).cell (p := ⟨b, off, none⟩) (World.block_lt_of_cell? w0 _ hc0)).trans hc0
  have HL0 : Hid (Own 1 w0.heap.size (w0.alloc (.cells #[] 3)).heap.size 3 (w0.alloc (.cells #[] 3)) (.slice (some ⟨w0.heap.size, 0, none⟩) 0 0) 0 (ints [])) := Lib.hid ((Own.lit 1 3 w0 (ints []) 0 (by omega) rfl).wide2 (Nat.le_refl _) (by simp))
  have HB1 := Lib.hid (hb0.trans ((al_below w0 (.cells #[] 3)).mono (by omega)))
  have KB1 := Lib.hid (KB.out.below (al_below w0 (.cells #[] 3)) hgl)
  have HA1 := Lib.hid (HA.out.below (al_below w0 (.cells #[] 3)) (by omega))
  obtain ⟨w1, hw1⟩ : ∃ w1, w1 = w0.alloc (.cells #[] 3) := ⟨_, rfl⟩
  rw [← hw1] at HL0 HB1 KB1 HA1 hc0'
  have hs1 : w.heap.size ≤ w1.heap.size := HB1.out.size
  have hs11 : w0.heap.size ≤ w1.heap.size := by rw [hw1]; simp
  have HW1 := Lib.hid hw1
  have hg1 := KB1.out.lt
  have e2 : decide ((t : Int) ≤ 15) = true := decide_eq_true (by omega)
  clear hM hA KB_ hb0 hw0 hgM hx hcell hw1 HD hsz hok hzs hT
  go_enter Tryd.func57, Tryd.ntmps57
  go_upto_region 1 with (rw [← HW.out])
  try rw [← HW.out]
  try rw [← HGM.out]
  go_wp2_with (rw [← HW1.out])
  go_loopw [7, 8] (fun ov iv wr => ∃ (k : Nat) (oa : Option Addr) (oc : Nat) (os : List Int), ov = .slice oa os.length oc ∧ iv = .int .i64 k ∧ k ≤ n ∧ os = zs.take k ∧ os.length ≤ 5 ∧ Hid (Below w.heap.size w wr ∧ Below w0.heap.size w1 wr ∧ OwnI w0.heap.size wr.heap.size 3 wr (.slice oa os.length oc) os)) (fun _ i _ => n - (intOf i).toNat)
  case atStart => exact ⟨0, _, 0, [], rfl, rfl, by omega, by simp, by simp, Lib.hid ⟨HB1.out, Below.refl _ _, HL0.out⟩⟩
  case round =>
    obtain ⟨k, oa, oc, os, rfl, rfl, hk, hos, hol, HQ⟩ := hrel
    have hsr := HQ.out.1.size
    have hsr2 := HQ.out.2.1.size
    have KW := Lib.hid (KB1.out.below HQ.out.2.1 hgl)
    have k0 := KW.out.cell 0
    by_cases hlt : k < n
    · have HOS := Lib.hid hos
      have hd : decide ((k : Int) < (n : Int)) = true := decide_eq_true (by omega)
      have hol2 : os.length ≤ 4 := by rw [HOS.out, List.length_take]; omega
      have k1 := KW.out.cell 1
      have k2 := KW.out.cell 2
      have k3 := KW.out.cell 3
      have HTC := Lib.hid (HTS.out wr (HA1.out.below HQ.out.2.1 (by omega)) (by omega))
      have HBI := Lib.hid (l1BitG T k (by omega) (by omega))
      have hpw := pow_wrap (k := k) (by omega)
      have HZk := Lib.hid (HZ.out k hlt)
      have hbr := bit_row T k
      have hpl : 2 ^ k ≤ 16 := Nat.pow_le_pow_right (n := 2) (by omega) (show k ≤ 4 by omega)
      clear hos
      go_wp2_with fail
      refine HTC.out.mono ?_
      rintro e wx ⟨rfl, hbx⟩
      clear k0 k1 k2 k3 HTC
      have hsx := hbx.size
      have HQ2 := Lib.hid (show Below w.heap.size w wx ∧ Below w0.heap.size w1 wx ∧ OwnI w0.heap.size wx.heap.size 3 wx (.slice oa os.length oc) os from ⟨HQ.out.1.trans (hbx.mono hsr), HQ.out.2.1.trans (hbx.mono (by omega)), (Own.below HQ.out.2.2 hbx (Nat.le_refl _)).wide2 (Nat.le_refl _) hsx⟩)
      have hown := HQ2.out.2.2
      unfold OwnI at hown
      have hsw : w0.heap.size ≤ wx.heap.size := by omega
      clear hbx HQ
      rcases hbr with ⟨hb1, hb2⟩ | ⟨hb1, hb2⟩
      · rw [hb1] at HBI
        rw [hb2] at HZk
        clear hb1 hb2
        go_wp2_with (first | (go_at_call 45; refine (HBI.out _).mono ?_; rintro e_ _ ⟨rfl, rfl⟩) | (at_builtin; refine wpList_app_lit _ rfl _ _ 43 rfl 3 (.int .i64 0) 1 8 Tryd.underlying43 info_int rfl (by decide) (by decide) rfl hown 1 (ints [0]) rfl rfl (ints_one _) rfl (by omega) hsw ?_))
        intro v5 w5 hown5 hout5 _
        obtain ⟨a5, c5, rfl⟩ := Own.shape hown5
        have H5 := Lib.hid (And.intro hown5 hout5)
        have HT : Hid (os ++ [0] = zs.take (k + 1)) := Lib.hid (by rw [HOS.out, List.take_add_one, HZk.out]; simp)
        clear hown hown5 hout5
        go_wp2
        go_roundw
        case rel => exact ⟨k + 1, _, _, os ++ [0], by simp, by go_num, by omega, HT.out, by rw [HT.out, List.length_take]; omega, Lib.hid ⟨Below.outside HQ2.out.1 H5.out.2 (by omega) HQ2.out.1.size, Below.outside HQ2.out.2.1 H5.out.2 (Nat.le_refl _) (by omega), OwnI.app H5.out.1 rfl⟩⟩
        case measure => simp [intOf]; omega
      · obtain ⟨K, hK⟩ : ∃ K, K = 2 ^ k := ⟨_, rfl⟩
        rw [hb1] at HBI
        rw [hb2] at HZk
        rw [← hK] at hpw HZk
        clear hb1 hb2 hK
        go_wp2_with (first | (go_at_call 45; refine (HBI.out _).mono ?_; rintro e_ _ ⟨rfl, rfl⟩) | (at_builtin; refine wpList_app_lit _ rfl _ _ 43 rfl 3 (.int .i64 0) 1 8 Tryd.underlying43 info_int rfl (by decide) (by decide) rfl hown 1 (ints [(K : Int)]) rfl rfl (ints_one _) rfl (by omega) hsw ?_))
        intro v5 w5 hown5 hout5 _
        obtain ⟨a5, c5, rfl⟩ := Own.shape hown5
        have H5 := Lib.hid (And.intro hown5 hout5)
        have HT : Hid (os ++ [(K : Int)] = zs.take (k + 1)) := Lib.hid (by rw [HOS.out, List.take_add_one, HZk.out]; simp)
        clear hown hown5 hout5
        go_wp2
        go_roundw
        case rel => exact ⟨k + 1, _, _, os ++ [(K : Int)], by simp, by go_num, by omega, HT.out, by rw [HT.out, List.length_take]; omega, Lib.hid ⟨Below.outside HQ2.out.1 H5.out.2 (by omega) HQ2.out.1.size, Below.outside HQ2.out.2.1 H5.out.2 (Nat.le_refl _) (by omega), OwnI.app H5.out.1 rfl⟩⟩
        case measure => simp [intOf]; omega
    · obtain rfl : k = n := by omega
      have hd : decide ((k : Int) < (k : Int)) = false := by simp
      have HE : Hid (os = zs) := Lib.hid (by rw [hos, List.take_of_length_le (by have := HZL.out; omega)])
      go_wp2
      go_ret
      exact RetV.mk _ rfl ⟨by have h_ := HQ.out.2.2; rw [HE.out] at h_ ⊢; exact Own.wide2 h_ (by omega) (Nat.le_refl _), HQ.out.1⟩

set_option maxRecDepth 100000 in
set_option maxHeartbeats 3200000 in
theorem rowsS_star {a : KT} (ih : RowsS a) : RowsS (.star a) := by
  intro lo hi la ha n p q acts v va w hM hA hha hx hhi hsz hok
  obtain ⟨sa, sc, rfl, _, _⟩ := hA.shape
  have HM := Lib.hid hM
  have HM2 := Lib.hid hM.el
  have hal : acts.length ≤ 3 := by have := hM.len; omega
  have hal3 : 3 ≤ acts.length := by have := hM.len; omega
  have hn5 := hM.n5
  obtain ⟨gM, hgM⟩ : ∃ gM, gM = w.heap.size := ⟨_, rfl⟩
  obtain ⟨w0, hw0⟩ : ∃ w0, w0 = w.alloc (.cells #[.int .i64 (n : Int), .int .i64 (p : Int), .int .i64 (q : Int), .slice sa acts.length sc] 25) := ⟨_, rfl⟩
  obtain ⟨hb0, KB_, hs0⟩ := box_facts3 hw0
  rw [← hgM] at KB_
  have KB := Lib.hid KB_
  have HB := Lib.hid hb0
  have HA := Lib.hid (hA.below hb0 hha)
  have hgl := KB.out.lt
  have HW := Lib.hid hw0
  have HGM := Lib.hid hgM
  have hgM2 : w.heap.size ≤ gM := by rw [hgM]; exact Nat.le_refl _
  simp only [KT.ok] at hok
  simp only [KT.size] at hsz
  have hpl := a.post_length
  change SlI lo hi w v (a.post ++ [21]) at hx
  obtain ⟨b, off, cap, rfl, hc1, hc2, hcell⟩ := last_cell hx
  unfold maxLen at hc2
  have hsub := hx.sub 0 a.post.length (by omega) (by simp)
  simp only [Nat.add_zero, Nat.sub_zero, List.drop_zero, List.take_left] at hsub
  have HSB := Lib.hid (hsub.below hb0 hhi)
  have HCl : Hid (Closed n (den (leafM (⟨(n : Int), (p : Int), (q : Int), acts⟩ : Mo)) a)) := Lib.hid (by have := HM.out.mod; exact den_closed this _ hok)
  have HIH : Hid (∀ w', Below w0.heap.size w0 w' → Calls Tryd.prog 57 #[.agg #[.int .i64 (n : Int), .int .i64 (p : Int), .int .i64 (q : Int), .slice sa acts.length sc], .slice (some ⟨b, off, none⟩) a.post.length cap] w' (RowsNew w' (rowsR n (den (leafM (⟨(n : Int), (p : Int), (q : Int), acts⟩ : Mo)) a)))) := Lib.hid fun w' hb => ih lo hi la ha n p q acts _ _ w' HM.out (HA.out.below hb (by omega)) (by have := hb.size; omega) (HSB.out.below hb (by omega)) (by have := hb.size; omega) (by omega) hok
  obtain ⟨m, hme⟩ : ∃ m, m = a.post.length := ⟨_, rfl⟩
  rw [← hme] at hc1 hcell HIH HSB ⊢
  have hml : m ≤ 1000 := by omega
  have hc0 : w0.cell? ⟨b, off + m, none⟩ = some (.int .i64 21) := (hb0.cell (p := ⟨b, off + m, none⟩) (World.block_lt_of_cell? w _ hcell)).trans hcell
  have HGS : Hid (∀ w' : World, Below w0.heap.size w0 w' → w'.cell? ⟨gM, 0, none⟩ = some (.int .i64 (n : Int)) ∧ w'.cell? ⟨gM, 1, none⟩ = some (.int .i64 (p : Int)) ∧ w'.cell? ⟨gM, 2, none⟩ = some (.int .i64 (q : Int)) ∧ w'.cell? ⟨gM, 3, none⟩ = some (.slice sa acts.length sc)) := Lib.hid fun w' hb => ⟨(KB.out.below hb hgl).cell 0, (KB.out.below hb hgl).cell 1, (KB.out.below hb hgl).cell 2, (KB.out.below hb hgl).cell 3⟩
  have HI5 : inB (n : Int) 1 5 = true := by have := HM.out.n1; simp [inB]; omega
  have HV1 := Lib.hid (rowsR_valid HI5 (den (leafM (⟨(n : Int), (p : Int), (q : Int), acts⟩ : Mo)) a))
  rw [Int.toNat_natCast] at HV1
  have S0 := HGS.out w0 (Below.refl _ _)
  have SD := HGS.out w0.drew (Below.drew (Below.refl _ _))
  have hdz : w0.drew.heap.size = w0.heap.size := rfl
  have j8 : IntKind.i64.wrap (m : Int) = m := wrap_i64_nat _ (by omega)
  have j1 : (0 : Int) ≤ (m : Int) := by omega
  have j2 : (m : Int) ≤ (m : Int) + 1 := by omega
  have j3 : (m : Int) ≤ (cap : Int) := by omega
  have j4 : m ≤ cap := by omega
  clear hM hA KB_ hb0 hw0 hgM hx hcell hsub hsz hok hme hpl HI5
  go_enter Tryd.func57, Tryd.ntmps57
  go_upto_region 1 with (rw [← HW.out])
  try rw [← HW.out]
  try rw [← HGM.out]
  go_upto_region 13 with fail
  go_region_held3 (fun w' => w'.cell? ⟨gM, 0, none⟩ = some (.int .i64 (n : Int)) ∧ w'.cell? ⟨gM, 1, none⟩ = some (.int .i64 (p : Int)) ∧ w'.cell? ⟨gM, 2, none⟩ = some (.int .i64 (q : Int)) ∧ w'.cell? ⟨gM, 3, none⟩ = some (.slice sa acts.length sc)) (first | with_reducible assumption | go_keep) (first
    | (go_at_call 57; refine (HIH.out w0.drew (Below.drew (Below.refl _ _))).mono ?_; rintro e1 w1 ⟨v1, rfl, o1_, hb1_⟩; (have hz1 := hb1_.size); (have hb1 : Below w0.heap.size w0 w1 := (Below.drew (Below.refl _ _)).trans (hb1_.mono (Nat.le_refl _))); (have S1 := HGS.out _ hb1); obtain ⟨x1a, x1c, rfl⟩ := Own.shape o1_; (have O1 := Lib.hid o1_.sl); (have HB1 := Lib.hid hb1); clear o1_ hb1_ hb1)
    | (go_at_call 82; refine (specStar _ _ _ _ _ _ w1 O1.out (Nat.le_refl _) HV1.out (by rw [Int.toNat_natCast]) (by rw [Int.toNat_natCast]; exact HCl.out)).mono ?_; rintro e3 w3 ⟨v3, rfl, o3_, hb3_⟩; rw [Int.toNat_natCast] at o3_; (have hz3 := hb3_.size); (have hbf : Below w0.heap.size w0 w3 := HB1.out.trans (hb3_.mono (by omega))); (have S3 := HGS.out _ hbf); obtain ⟨x3a, x3c, rfl⟩ := Own.shape o3_; (have OF := Lib.hid o3_); (have HBF := Lib.hid hbf); clear o3_ hb3_ hbf))
  go_wp2
  go_ret
  exact RetV.mk _ rfl ⟨OF.out.lower (by omega) (Nat.le_refl _), HB.out.trans (HBF.out.mono (by omega))⟩

set_option maxRecDepth 100000 in
set_option maxHeartbeats 3200000 in
theorem rowsS_or {a b : KT} (iha : RowsS a) (ihb : RowsS b) : RowsS (.bin true a b) := by
  intro lo hi la ha n p q acts v va w hM hA hha hx hhi hsz hok
  obtain ⟨sa, sc, rfl, _, _⟩ := hA.shape
  have HM := Lib.hid hM
  have HM2 := Lib.hid hM.el
  have hal : acts.length ≤ 3 := by have := hM.len; omega
  have hal3 : 3 ≤ acts.length := by have := hM.len; omega
  have hn5 := hM.n5
  obtain ⟨gM, hgM⟩ : ∃ gM, gM = w.heap.size := ⟨_, rfl⟩
  obtain ⟨w0, hw0⟩ : ∃ w0, w0 = w.alloc (.cells #[.int .i64 (n : Int), .int .i64 (p : Int), .int .i64 (q : Int), .slice sa acts.length sc] 25) := ⟨_, rfl⟩
  obtain ⟨hb0, KB_, hs0⟩ := box_facts3 hw0
  rw [← hgM] at KB_
  have KB := Lib.hid KB_
  have HB := Lib.hid hb0
  have HA := Lib.hid (hA.below hb0 hha)
  have hgl := KB.out.lt
  have HW := Lib.hid hw0
  have HGM := Lib.hid hgM
  have hgM2 : w.heap.size ≤ gM := by rw [hgM]; exact Nat.le_refl _
  simp only [KT.ok, Bool.and_eq_true] at hok
  obtain ⟨hoa, hob⟩ := hok
  simp only [KT.size] at hsz
  have hpa := a.post_length
  have hpb := b.post_length
  have hxl : (KT.bin true a b).post.length ≤ 1048576 := by rw [KT.post_length]; simp only [KT.size]; omega
  have HHV := Lib.hid (l2Halves_any lo hi v 0 true a b w0 (hx.below hb0 hhi) hxl hob)
  change SlI lo hi w v (a.post ++ b.post ++ [20]) at hx
  obtain ⟨bb, off, cap, rfl, hc1, hc2, hcell⟩ := last_cell hx
  unfold maxLen at hc2
  have HCl : Hid (Closed n (den (leafM (⟨(n : Int), (p : Int), (q : Int), acts⟩ : Mo)) a) ∧ Closed n (den (leafM (⟨(n : Int), (p : Int), (q : Int), acts⟩ : Mo)) b)) := Lib.hid (by have := HM.out.mod; exact ⟨den_closed this _ hoa, den_closed this _ hob⟩)
  have HIHa : Hid (∀ va (w' : World), Below w0.heap.size w0 w' → SlI lo hi w' va a.post → Calls Tryd.prog 57 #[.agg #[.int .i64 (n : Int), .int .i64 (p : Int), .int .i64 (q : Int), .slice sa acts.length sc], va] w' (RowsNew w' (rowsR n (den (leafM (⟨(n : Int), (p : Int), (q : Int), acts⟩ : Mo)) a)))) := Lib.hid fun va w' hb h => iha lo hi la ha n p q acts _ _ w' HM.out (HA.out.below hb (by omega)) (by have := hb.size; omega) h (by have := hb.size; omega) (by omega) hoa
  have HIHb : Hid (∀ va (w' : World), Below w0.heap.size w0 w' → SlI lo hi w' va b.post → Calls Tryd.prog 57 #[.agg #[.int .i64 (n : Int), .int .i64 (p : Int), .int .i64 (q : Int), .slice sa acts.length sc], va] w' (RowsNew w' (rowsR n (den (leafM (⟨(n : Int), (p : Int), (q : Int), acts⟩ : Mo)) b)))) := Lib.hid fun va w' hb h => ihb lo hi la ha n p q acts _ _ w' HM.out (HA.out.below hb (by omega)) (by have := hb.size; omega) h (by have := hb.size; omega) (by omega) hob
  have hpl : (a.post ++ b.post).length = a.post.length + b.post.length := List.length_append
  obtain ⟨m, hme⟩ : ∃ m, m = a.post.length + b.post.length := ⟨_, rfl⟩
  rw [hpl, ← hme] at hc1 hcell HHV ⊢
  have hml : m ≤ 1000 := by omega
  have hc0 : w0.cell? ⟨bb, off + m, none⟩ = some (.int .i64 20) := (hb0.cell (p := ⟨bb, off + m, none⟩) (World.block_lt_of_cell? w _ hcell)).trans hcell
  have HGS : Hid (∀ w' : World, Below w0.heap.size w0 w' → w'.cell? ⟨gM, 0, none⟩ = some (.int .i64 (n : Int)) ∧ w'.cell? ⟨gM, 1, none⟩ = some (.int .i64 (p : Int)) ∧ w'.cell? ⟨gM, 2, none⟩ = some (.int .i64 (q : Int)) ∧ w'.cell? ⟨gM, 3, none⟩ = some (.slice sa acts.length sc)) := Lib.hid fun w' hb => ⟨(KB.out.below hb hgl).cell 0, (KB.out.below hb hgl).cell 1, (KB.out.below hb hgl).cell 2, (KB.out.below hb hgl).cell 3⟩
  have HI5 : inB (n : Int) 1 5 = true := by have := HM.out.n1; simp [inB]; omega
  have HV1 := Lib.hid (rowsR_valid HI5 (den (leafM (⟨(n : Int), (p : Int), (q : Int), acts⟩ : Mo)) a))
  have HV2 := Lib.hid (rowsR_valid HI5 (den (leafM (⟨(n : Int), (p : Int), (q : Int), acts⟩ : Mo)) b))
  rw [Int.toNat_natCast] at HV1 HV2
  clear hM hA KB_ hb0 hw0 hgM hx hcell hsz hoa hob hme hpl HI5 hpa hpb hxl
  go_enter Tryd.func57, Tryd.ntmps57
  go_upto_region 1 with (rw [← HW.out])
  try rw [← HW.out]
  try rw [← HGM.out]
  go_wp2_with fail
  refine HHV.out.mono ?_
  rintro e wh ⟨va, vb, rfl, ⟨mh, rfl⟩, ha_, hb_⟩
  have hbw := below_drewS w0 mh
  have hhi0 : hi ≤ w0.heap.size := by omega
  obtain ⟨aa, ac, rfl, _, _⟩ := Sl.shape ha_
  obtain ⟨ab, bc, rfl, _, _⟩ := Sl.shape hb_
  have HSA : Hid (SlI lo hi (w0.drewN mh) (.slice aa a.post.length ac) a.post) := Lib.hid (ha_.below hbw hhi0)
  have HSB : Hid (SlI lo hi (w0.drewN mh) (.slice ab b.post.length bc) b.post) := Lib.hid (hb_.below hbw hhi0)
  have HBW := Lib.hid hbw
  obtain ⟨wh, hwh⟩ : ∃ wh, wh = w0.drewN mh := ⟨_, rfl⟩
  rw [← hwh] at HSA HSB HBW ⊢
  have hszh := HBW.out.size
  have hszg : hi ≤ wh.heap.size := by omega
  obtain ⟨ma, hma⟩ : ∃ ma, ma = a.post.length := ⟨_, rfl⟩
  obtain ⟨mb, hmb⟩ : ∃ mb, mb = b.post.length := ⟨_, rfl⟩
  rw [← hma] at HSA ⊢
  rw [← hmb] at HSB ⊢
  have S0 := HGS.out wh HBW.out
  have SD := HGS.out wh.drew (Below.drew HBW.out)
  have HBD : Hid (Below wh.heap.size wh wh.drew) := Lib.hid (Below.drew (Below.refl _ _))
  have hdz : wh.drew.heap.size = wh.heap.size := rfl
  clear HHV ha_ hb_ hbw hwh hma hmb
  go_upto_region 16 with fail
  go_region_held3 (fun w' => w'.cell? ⟨gM, 0, none⟩ = some (.int .i64 (n : Int)) ∧ w'.cell? ⟨gM, 1, none⟩ = some (.int .i64 (p : Int)) ∧ w'.cell? ⟨gM, 2, none⟩ = some (.int .i64 (q : Int)) ∧ w'.cell? ⟨gM, 3, none⟩ = some (.slice sa acts.length sc)) (first | with_reducible assumption | go_keep) (first
    | (go_at_call_of 57 (Value.slice aa ma ac); refine (HIHa.out _ wh.drew (HBW.out.trans (HBD.out.mono (by omega))) (HSA.out.below HBD.out (by omega))).mono ?_; rintro e1 w1 ⟨v1, rfl, o1_, hb1_⟩; (have hz1 := hb1_.size); (have hb1 : Below w0.heap.size w0 w1 := HBW.out.trans ((HBD.out.trans (hb1_.mono (Nat.le_refl _))).mono (by omega))); (have S1 := HGS.out _ hb1); (have HSB1 := Lib.hid (HSB.out.below (HBD.out.trans (hb1_.mono (Nat.le_refl _))) (by omega))); obtain ⟨x1a, x1c, rfl⟩ := Own.shape o1_; (have O1 := Lib.hid o1_.sl); (have HB1 := Lib.hid hb1); clear o1_ hb1_ hb1)
    | (go_at_call 57; refine (HIHb.out _ w1 HB1.out HSB1.out).mono ?_; rintro e2 w2 ⟨v2, rfl, o2_, hb2_⟩; (have hz2 := hb2_.size); (have hb2 : Below w0.heap.size w0 w2 := HB1.out.trans (hb2_.mono (by omega))); (have S2 := HGS.out _ hb2); (replace O1 := Lib.hid (O1.out.below hb2_ (Nat.le_refl _))); obtain ⟨x2a, x2c, rfl⟩ := Own.shape o2_; (have O2 := Lib.hid o2_.sl); (have HB2 := Lib.hid hb2); clear o2_ hb2_ hb2)
    | (go_at_call 84; refine (specPlus _ _ _ _ _ _ _ _ _ w2 O1.out O2.out (by omega) (Nat.le_refl _) HV1.out HV2.out).mono ?_; rintro e3 w3 ⟨v3, rfl, o3_, hb3_⟩; rw [plus_rows] at o3_; (have hz3 := hb3_.size); (have hbf : Below w0.heap.size w0 w3 := HB2.out.trans (hb3_.mono (by omega))); (have S3 := HGS.out _ hbf); obtain ⟨x3a, x3c, rfl⟩ := Own.shape o3_; (have OF := Lib.hid o3_); (have HBF := Lib.hid hbf); clear o3_ hb3_ hbf))
  go_wp2
  go_ret
  exact RetV.mk _ rfl ⟨OF.out.lower (by omega) (Nat.le_refl _), HB.out.trans (HBF.out.mono (by omega))⟩

set_option maxRecDepth 100000 in
set_option maxHeartbeats 3200000 in
theorem rowsS_seq {a b : KT} (iha : RowsS a) (ihb : RowsS b) : RowsS (.bin false a b) := by
  intro lo hi la ha n p q acts v va w hM hA hha hx hhi hsz hok
  obtain ⟨sa, sc, rfl, _, _⟩ := hA.shape
  have HM := Lib.hid hM
  have HM2 := Lib.hid hM.el
  have hal : acts.length ≤ 3 := by have := hM.len; omega
  have hal3 : 3 ≤ acts.length := by have := hM.len; omega
  have hn5 := hM.n5
  obtain ⟨gM, hgM⟩ : ∃ gM, gM = w.heap.size := ⟨_, rfl⟩
  obtain ⟨w0, hw0⟩ : ∃ w0, w0 = w.alloc (.cells #[.int .i64 (n : Int), .int .i64 (p : Int), .int .i64 (q : Int), .slice sa acts.length sc] 25) := ⟨_, rfl⟩
  obtain ⟨hb0, KB_, hs0⟩ := box_facts3 hw0
  rw [← hgM] at KB_
  have KB := Lib.hid KB_
  have HB := Lib.hid hb0
  have HA := Lib.hid (hA.below hb0 hha)
  have hgl := KB.out.lt
  have HW := Lib.hid hw0
  have HGM := Lib.hid hgM
  have hgM2 : w.heap.size ≤ gM := by rw [hgM]; exact Nat.le_refl _
  simp only [KT.ok, Bool.and_eq_true] at hok
  obtain ⟨hoa, hob⟩ := hok
  simp only [KT.size] at hsz
  have hpa := a.post_length
  have hpb := b.post_length
  have hxl : (KT.bin false a b).post.length ≤ 1048576 := by rw [KT.post_length]; simp only [KT.size]; omega
  have HHV := Lib.hid (l2Halves_any lo hi v 0 false a b w0 (hx.below hb0 hhi) hxl hob)
  change SlI lo hi w v (a.post ++ b.post ++ [19]) at hx
  obtain ⟨bb, off, cap, rfl, hc1, hc2, hcell⟩ := last_cell hx
  unfold maxLen at hc2
  have HCl : Hid (Closed n (den (leafM (⟨(n : Int), (p : Int), (q : Int), acts⟩ : Mo)) a) ∧ Closed n (den (leafM (⟨(n : Int), (p : Int), (q : Int), acts⟩ : Mo)) b)) := Lib.hid (by have := HM.out.mod; exact ⟨den_closed this _ hoa, den_closed this _ hob⟩)
  have HIHa : Hid (∀ va (w' : World), Below w0.heap.size w0 w' → SlI lo hi w' va a.post → Calls Tryd.prog 57 #[.agg #[.int .i64 (n : Int), .int .i64 (p : Int), .int .i64 (q : Int), .slice sa acts.length sc], va] w' (RowsNew w' (rowsR n (den (leafM (⟨(n : Int), (p : Int), (q : Int), acts⟩ : Mo)) a)))) := Lib.hid fun va w' hb h => iha lo hi la ha n p q acts _ _ w' HM.out (HA.out.below hb (by omega)) (by have := hb.size; omega) h (by have := hb.size; omega) (by omega) hoa
  have HIHb : Hid (∀ va (w' : World), Below w0.heap.size w0 w' → SlI lo hi w' va b.post → Calls Tryd.prog 57 #[.agg #[.int .i64 (n : Int), .int .i64 (p : Int), .int .i64 (q : Int), .slice sa acts.length sc], va] w' (RowsNew w' (rowsR n (den (leafM (⟨(n : Int), (p : Int), (q : Int), acts⟩ : Mo)) b)))) := Lib.hid fun va w' hb h => ihb lo hi la ha n p q acts _ _ w' HM.out (HA.out.below hb (by omega)) (by have := hb.size; omega) h (by have := hb.size; omega) (by omega) hob
  have hpl : (a.post ++ b.post).length = a.post.length + b.post.length := List.length_append
  obtain ⟨m, hme⟩ : ∃ m, m = a.post.length + b.post.length := ⟨_, rfl⟩
  rw [hpl, ← hme] at hc1 hcell HHV ⊢
  have hml : m ≤ 1000 := by omega
  have hc0 : w0.cell? ⟨bb, off + m, none⟩ = some (.int .i64 19) := (hb0.cell (p := ⟨bb, off + m, none⟩) (World.block_lt_of_cell? w _ hcell)).trans hcell
  have HGS : Hid (∀ w' : World, Below w0.heap.size w0 w' → w'.cell? ⟨gM, 0, none⟩ = some (.int .i64 (n : Int)) ∧ w'.cell? ⟨gM, 1, none⟩ = some (.int .i64 (p : Int)) ∧ w'.cell? ⟨gM, 2, none⟩ = some (.int .i64 (q : Int)) ∧ w'.cell? ⟨gM, 3, none⟩ = some (.slice sa acts.length sc)) := Lib.hid fun w' hb => ⟨(KB.out.below hb hgl).cell 0, (KB.out.below hb hgl).cell 1, (KB.out.below hb hgl).cell 2, (KB.out.below hb hgl).cell 3⟩
  have HI5 : inB (n : Int) 1 5 = true := by have := HM.out.n1; simp [inB]; omega
  have HV1 := Lib.hid (rowsR_valid HI5 (den (leafM (⟨(n : Int), (p : Int), (q : Int), acts⟩ : Mo)) a))
  have HV2 := Lib.hid (rowsR_valid HI5 (den (leafM (⟨(n : Int), (p : Int), (q : Int), acts⟩ : Mo)) b))
  rw [Int.toNat_natCast] at HV1 HV2
  clear hM hA KB_ hb0 hw0 hgM hx hcell hsz hoa hob hme hpl HI5 hpa hpb hxl
  go_enter Tryd.func57, Tryd.ntmps57
  go_upto_region 1 with (rw [← HW.out])
  try rw [← HW.out]
  try rw [← HGM.out]
  go_wp2_with fail
  refine HHV.out.mono ?_
  rintro e wh ⟨va, vb, rfl, ⟨mh, rfl⟩, ha_, hb_⟩
  have hbw := below_drewS w0 mh
  have hhi0 : hi ≤ w0.heap.size := by omega
  obtain ⟨aa, ac, rfl, _, _⟩ := Sl.shape ha_
  obtain ⟨ab, bc, rfl, _, _⟩ := Sl.shape hb_
  have HSA : Hid (SlI lo hi (w0.drewN mh) (.slice aa a.post.length ac) a.post) := Lib.hid (ha_.below hbw hhi0)
  have HSB : Hid (SlI lo hi (w0.drewN mh) (.slice ab b.post.length bc) b.post) := Lib.hid (hb_.below hbw hhi0)
  have HBW := Lib.hid hbw
  obtain ⟨wh, hwh⟩ : ∃ wh, wh = w0.drewN mh := ⟨_, rfl⟩
  rw [← hwh] at HSA HSB HBW ⊢
  have hszh := HBW.out.size
  have hszg : hi ≤ wh.heap.size := by omega
  obtain ⟨ma, hma⟩ : ∃ ma, ma = a.post.length := ⟨_, rfl⟩
  obtain ⟨mb, hmb⟩ : ∃ mb, mb = b.post.length := ⟨_, rfl⟩
  rw [← hma] at HSA ⊢
  rw [← hmb] at HSB ⊢
  have S0 := HGS.out wh HBW.out
  have SD := HGS.out wh.drew (Below.drew HBW.out)
  have HBD : Hid (Below wh.heap.size wh wh.drew) := Lib.hid (Below.drew (Below.refl _ _))
  have hdz : wh.drew.heap.size = wh.heap.size := rfl
  clear HHV ha_ hb_ hbw hwh hma hmb
  go_upto_region 17 with fail
  go_region_held3 (fun w' => w'.cell? ⟨gM, 0, none⟩ = some (.int .i64 (n : Int)) ∧ w'.cell? ⟨gM, 1, none⟩ = some (.int .i64 (p : Int)) ∧ w'.cell? ⟨gM, 2, none⟩ = some (.int .i64 (q : Int)) ∧ w'.cell? ⟨gM, 3, none⟩ = some (.slice sa acts.length sc)) (first | with_reducible assumption | go_keep) (first
    | (go_at_call_of 57 (Value.slice aa ma ac); refine (HIHa.out _ wh.drew (HBW.out.trans (HBD.out.mono (by omega))) (HSA.out.below HBD.out (by omega))).mono ?_; rintro e1 w1 ⟨v1, rfl, o1_, hb1_⟩; (have hz1 := hb1_.size); (have hb1 : Below w0.heap.size w0 w1 := HBW.out.trans ((HBD.out.trans (hb1_.mono (Nat.le_refl _))).mono (by omega))); (have S1 := HGS.out _ hb1); (have HSB1 := Lib.hid (HSB.out.below (HBD.out.trans (hb1_.mono (Nat.le_refl _))) (by omega))); obtain ⟨x1a, x1c, rfl⟩ := Own.shape o1_; (have O1 := Lib.hid o1_.sl); (have HB1 := Lib.hid hb1); clear o1_ hb1_ hb1)
    | (go_at_call 57; refine (HIHb.out _ w1 HB1.out HSB1.out).mono ?_; rintro e2 w2 ⟨v2, rfl, o2_, hb2_⟩; (have hz2 := hb2_.size); (have hb2 : Below w0.heap.size w0 w2 := HB1.out.trans (hb2_.mono (by omega))); (have S2 := HGS.out _ hb2); (replace O1 := Lib.hid (O1.out.below hb2_ (Nat.le_refl _))); obtain ⟨x2a, x2c, rfl⟩ := Own.shape o2_; (have O2 := Lib.hid o2_.sl); (have HB2 := Lib.hid hb2); clear o2_ hb2_ hb2)
    | (go_at_call 85; refine (specThen _ _ _ _ _ _ _ _ _ w2 O1.out O2.out (by omega) (Nat.le_refl _) HV1.out HV2.out).mono ?_; rintro e3 w3 ⟨v3, rfl, o3_, hb3_⟩; rw [then_rows HCl.out.1] at o3_; (have hz3 := hb3_.size); (have hbf : Below w0.heap.size w0 w3 := HB2.out.trans (hb3_.mono (by omega))); (have S3 := HGS.out _ hbf); obtain ⟨x3a, x3c, rfl⟩ := Own.shape o3_; (have OF := Lib.hid o3_); (have HBF := Lib.hid hbf); clear o3_ hb3_ hbf))
  go_wp2
  go_ret
  exact RetV.mk _ rfl ⟨OF.out.lower (by omega) (Nat.le_refl _), HB.out.trans (HBF.out.mono (by omega))⟩

theorem rowsS_any : ∀ t : KT, t.ok 0 = true → RowsS t
  | .leaf a, h => by
    simp only [KT.ok, Bool.and_eq_true, decide_eq_true_eq] at h
    by_cases ha : a ≤ 15
    · obtain ⟨k, rfl⟩ : ∃ k : Nat, a = k := ⟨a.toNat, by omega⟩
      exact rowsS_test (by omega)
    · exact rowsS_act (by omega) (by omega)
  | .star a, h => rowsS_star (rowsS_any a h)
  | .bin true a b, h => by
    simp only [KT.ok, Bool.and_eq_true] at h
    exact rowsS_or (rowsS_any a h.1) (rowsS_any b h.2)
  | .bin false a b, h => by
    simp only [KT.ok, Bool.and_eq_true] at h
    exact rowsS_seq (rowsS_any a h.1) (rowsS_any b h.2)
end Go.Proofs.YtoondakdjhhehaaDoor
