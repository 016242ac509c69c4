/-
  Texts of walks and plain lemmas for this seat; no condition.
-/
import Derived.Test.YtadihfjmgckdaaaGreatDoorIRows9
import Derived.Deep.RegionHeld3
import Derived.Deep.DeepCutAuto
import Derived.Deep.DrawnRows
namespace Go.Proofs.YtadihfjmgckdaaaGreatDoor
open Go.RowKit


set_option maxRecDepth 100000 in
set_option maxHeartbeats 6400000 in
theorem rows_act0 : RowsC (.leaf 16) := by
  intro lo la ha n p q acts ptr va w hM hA hha hp hok
  obtain ⟨ps, ⟨b, kv, rfl, _, _, hblk, a, cap, rfl, hpc, hcm, hkid⟩, hstk⟩ := hp.node
  have hpl := hstk.length
  obtain ⟨sa, sc, rfl, _, _⟩ := hA.shape
  rw [hM.len] at hA ⊢
  have HM := Lib.hid hM
  have HS := Lib.hid hM.small
  have hn5 := hM.n5
  obtain ⟨w0, hw0⟩ : ∃ w0, w0 = w.alloc (.cells #[.int .i64 (n : Int), .int .i64 (p : Int), .int .i64 (q : Int), .slice sa 3 sc] 31) := ⟨_, rfl⟩
  obtain ⟨hb0, KB_, hs0⟩ := box_facts3 hw0
  have KB := Lib.hid KB_
  have HB := Lib.hid hb0
  have HA := Lib.hid (hA.below hb0 hha)
  have KN := Lib.hid (hblk.below hb0 hblk.lt)
  have HSTK := Lib.hid (hstk.mono (Keeps.below hb0))
  have hbs := hblk.lt
  have HW := Lib.hid hw0
  have hlen : 3 ≤ acts.length := by have := hM.len; omega
  obtain ⟨b2, off2, u, rfl, _, hb2, hb2s, hcu, hu⟩ := hA.get 0 (by omega)
  have HU := Lib.hid (hu.below hb0 hha)
  have HCU := Lib.hid ((hb0.cell (p := ⟨b2, off2 + 0, none⟩) hb2s).trans hcu)
  have HL2 := Lib.hid hb2s
  have HR := Lib.hid (rows_rel (hM.rows 0 (by omega)))
  have HRL := Lib.hid (rowsB_small (hM.rows 0 (by omega)))
  have HGS : Hid (∀ w' : World, Below w0.heap.size w0 w' → w'.cell? ⟨w.heap.size, 0, none⟩ = some (.int .i64 (n : Int)) ∧ w'.cell? ⟨w.heap.size, 1, none⟩ = some (.int .i64 (p : Int)) ∧ w'.cell? ⟨w.heap.size, 2, none⟩ = some (.int .i64 (q : Int)) ∧ w'.cell? ⟨w.heap.size, 3, none⟩ = some (.slice (some ⟨b2, off2, none⟩) 3 sc) ∧ w'.cell? ⟨b, 0, none⟩ = some (.int .i64 16) ∧ w'.cell? ⟨b2, off2, none⟩ = some u) := Lib.hid fun w' hb => ⟨(KB.out.below hb KB.out.lt).cell 0, (KB.out.below hb KB.out.lt).cell 1, (KB.out.below hb KB.out.lt).cell 2, (KB.out.below hb KB.out.lt).cell 3, (KN.out.below hb KN.out.lt).cell 0, (hb.cell (p := ⟨b2, off2 + 0, none⟩) (Nat.lt_of_lt_of_le HL2.out HB.out.size)).trans HCU.out⟩
  have HD : Hid (rowsR n (den (leafM (⟨(n : Int), (p : Int), (q : Int), acts⟩ : Mo)) (.leaf 16)) = acts[0]'(by omega)) := Lib.hid (by
    rw [HR.out, Int.toNat_natCast]
    refine rowsR_congr fun s t _ _ => ?_
    rw [den_leaf, leafM_act (by omega)]
    simp only [show ((16 : Int) - 16).toNat = 0 from rfl, List.getD]
    rw [List.getElem?_eq_getElem (by omega)]
    simp)
  have S0 := HGS.out w0 (Below.refl _ _)
  have SD := HGS.out w0.drew (Below.drew (Below.refl _ _))
  have HUD := Lib.hid (HU.out.below (Below.drew (Below.refl w0.heap.size w0)) (by omega))
  have hdz : w0.drew.heap.size = w0.heap.size := rfl
  rw [HD.out]
  clear hM hA hp hok hblk hkid hstk hpl hb0 KB_ hw0 hcm hpc hcu hu HD
  go_enter Tryz.func50, Tryz.ntmps50
  go_upto_region 2 with (first | rw [← HW.out] | (go_at_call 97; refine (isAct_any _ _).mono ?_; rintro e _ ⟨rfl, rfl⟩))
  try rw [← HW.out]
  go_region_with ((go_at_call 87; refine (cloneI_any _ _ u _ w0.drew HUD.out (by have := HRL.out; omega)).mono ?_; rintro e3 w3 ⟨v3, rfl, hb3_, o3_⟩; (have hz3 := hb3_.size); (have hbf : Below w0.heap.size w0 w3 := (Below.drew (Below.refl _ _)).trans (hb3_.mono (Nat.le_refl _))); (have S3 := HGS.out _ hbf); obtain ⟨x3a, x3c, rfl⟩ := Own.shape o3_; (have OF := Lib.hid o3_); (have HBF := Lib.hid hbf); clear o3_ hb3_ hbf))
  all_goals (
    go_wp2
    go_ret
    exact RetV.mk _ rfl ⟨OF.out.lower (by show w.heap.size ≤ w0.heap.size; omega) (Nat.le_refl _), HB.out.trans (HBF.out.mono (by omega))⟩)


set_option maxRecDepth 100000 in
set_option maxHeartbeats 6400000 in
theorem rows_act1 : RowsC (.leaf 17) := by
  intro lo la ha n p q acts ptr va w hM hA hha hp hok
  obtain ⟨ps, ⟨b, kv, rfl, _, _, hblk, a, cap, rfl, hpc, hcm, hkid⟩, hstk⟩ := hp.node
  have hpl := hstk.length
  obtain ⟨sa, sc, rfl, _, _⟩ := hA.shape
  rw [hM.len] at hA ⊢
  have HM := Lib.hid hM
  have HS := Lib.hid hM.small
  have hn5 := hM.n5
  obtain ⟨w0, hw0⟩ : ∃ w0, w0 = w.alloc (.cells #[.int .i64 (n : Int), .int .i64 (p : Int), .int .i64 (q : Int), .slice sa 3 sc] 31) := ⟨_, rfl⟩
  obtain ⟨hb0, KB_, hs0⟩ := box_facts3 hw0
  have KB := Lib.hid KB_
  have HB := Lib.hid hb0
  have HA := Lib.hid (hA.below hb0 hha)
  have KN := Lib.hid (hblk.below hb0 hblk.lt)
  have HSTK := Lib.hid (hstk.mono (Keeps.below hb0))
  have hbs := hblk.lt
  have HW := Lib.hid hw0
  have hlen : 3 ≤ acts.length := by have := hM.len; omega
  obtain ⟨b2, off2, u, rfl, _, hb2, hb2s, hcu, hu⟩ := hA.get 1 (by omega)
  have HU := Lib.hid (hu.below hb0 hha)
  have HCU := Lib.hid ((hb0.cell (p := ⟨b2, off2 + 1, none⟩) hb2s).trans hcu)
  have HL2 := Lib.hid hb2s
  have HR := Lib.hid (rows_rel (hM.rows 1 (by omega)))
  have HRL := Lib.hid (rowsB_small (hM.rows 1 (by omega)))
  have HGS : Hid (∀ w' : World, Below w0.heap.size w0 w' → w'.cell? ⟨w.heap.size, 0, none⟩ = some (.int .i64 (n : Int)) ∧ w'.cell? ⟨w.heap.size, 1, none⟩ = some (.int .i64 (p : Int)) ∧ w'.cell? ⟨w.heap.size, 2, none⟩ = some (.int .i64 (q : Int)) ∧ w'.cell? ⟨w.heap.size, 3, none⟩ = some (.slice (some ⟨b2, off2, none⟩) 3 sc) ∧ w'.cell? ⟨b, 0, none⟩ = some (.int .i64 17) ∧ w'.cell? ⟨b2, off2 + 1, none⟩ = some u) := Lib.hid fun w' hb => ⟨(KB.out.below hb KB.out.lt).cell 0, (KB.out.below hb KB.out.lt).cell 1, (KB.out.below hb KB.out.lt).cell 2, (KB.out.below hb KB.out.lt).cell 3, (KN.out.below hb KN.out.lt).cell 0, (hb.cell (p := ⟨b2, off2 + 1, none⟩) (Nat.lt_of_lt_of_le HL2.out HB.out.size)).trans HCU.out⟩
  have HD : Hid (rowsR n (den (leafM (⟨(n : Int), (p : Int), (q : Int), acts⟩ : Mo)) (.leaf 17)) = acts[1]'(by omega)) := Lib.hid (by
    rw [HR.out, Int.toNat_natCast]
    refine rowsR_congr fun s t _ _ => ?_
    rw [den_leaf, leafM_act (by omega)]
    simp only [show ((17 : Int) - 16).toNat = 1 from rfl, List.getD]
    rw [List.getElem?_eq_getElem (by omega)]
    simp)
  have S0 := HGS.out w0 (Below.refl _ _)
  have SD := HGS.out w0.drew (Below.drew (Below.refl _ _))
  have HUD := Lib.hid (HU.out.below (Below.drew (Below.refl w0.heap.size w0)) (by omega))
  have hdz : w0.drew.heap.size = w0.heap.size := rfl
  rw [HD.out]
  clear hM hA hp hok hblk hkid hstk hpl hb0 KB_ hw0 hcm hpc hcu hu HD
  go_enter Tryz.func50, Tryz.ntmps50
  go_upto_region 2 with (first | rw [← HW.out] | (go_at_call 97; refine (isAct_any _ _).mono ?_; rintro e _ ⟨rfl, rfl⟩))
  try rw [← HW.out]
  go_region_with ((go_at_call 87; refine (cloneI_any _ _ u _ w0.drew HUD.out (by have := HRL.out; omega)).mono ?_; rintro e3 w3 ⟨v3, rfl, hb3_, o3_⟩; (have hz3 := hb3_.size); (have hbf : Below w0.heap.size w0 w3 := (Below.drew (Below.refl _ _)).trans (hb3_.mono (Nat.le_refl _))); (have S3 := HGS.out _ hbf); obtain ⟨x3a, x3c, rfl⟩ := Own.shape o3_; (have OF := Lib.hid o3_); (have HBF := Lib.hid hbf); clear o3_ hb3_ hbf))
  all_goals (
    go_wp2
    go_ret
    exact RetV.mk _ rfl ⟨OF.out.lower (by show w.heap.size ≤ w0.heap.size; omega) (Nat.le_refl _), HB.out.trans (HBF.out.mono (by omega))⟩)


set_option maxRecDepth 100000 in
set_option maxHeartbeats 6400000 in
theorem rows_act2 : RowsC (.leaf 18) := by
  intro lo la ha n p q acts ptr va w hM hA hha hp hok
  obtain ⟨ps, ⟨b, kv, rfl, _, _, hblk, a, cap, rfl, hpc, hcm, hkid⟩, hstk⟩ := hp.node
  have hpl := hstk.length
  obtain ⟨sa, sc, rfl, _, _⟩ := hA.shape
  rw [hM.len] at hA ⊢
  have HM := Lib.hid hM
  have HS := Lib.hid hM.small
  have hn5 := hM.n5
  obtain ⟨w0, hw0⟩ : ∃ w0, w0 = w.alloc (.cells #[.int .i64 (n : Int), .int .i64 (p : Int), .int .i64 (q : Int), .slice sa 3 sc] 31) := ⟨_, rfl⟩
  obtain ⟨hb0, KB_, hs0⟩ := box_facts3 hw0
  have KB := Lib.hid KB_
  have HB := Lib.hid hb0
  have HA := Lib.hid (hA.below hb0 hha)
  have KN := Lib.hid (hblk.below hb0 hblk.lt)
  have HSTK := Lib.hid (hstk.mono (Keeps.below hb0))
  have hbs := hblk.lt
  have HW := Lib.hid hw0
  have hlen : 3 ≤ acts.length := by have := hM.len; omega
  obtain ⟨b2, off2, u, rfl, _, hb2, hb2s, hcu, hu⟩ := hA.get 2 (by omega)
  have HU := Lib.hid (hu.below hb0 hha)
  have HCU := Lib.hid ((hb0.cell (p := ⟨b2, off2 + 2, none⟩) hb2s).trans hcu)
  have HL2 := Lib.hid hb2s
  have HR := Lib.hid (rows_rel (hM.rows 2 (by omega)))
  have HRL := Lib.hid (rowsB_small (hM.rows 2 (by omega)))
  have HGS : Hid (∀ w' : World, Below w0.heap.size w0 w' → w'.cell? ⟨w.heap.size, 0, none⟩ = some (.int .i64 (n : Int)) ∧ w'.cell? ⟨w.heap.size, 1, none⟩ = some (.int .i64 (p : Int)) ∧ w'.cell? ⟨w.heap.size, 2, none⟩ = some (.int .i64 (q : Int)) ∧ w'.cell? ⟨w.heap.size, 3, none⟩ = some (.slice (some ⟨b2, off2, none⟩) 3 sc) ∧ w'.cell? ⟨b, 0, none⟩ = some (.int .i64 18) ∧ w'.cell? ⟨b2, off2 + 2, none⟩ = some u) := Lib.hid fun w' hb => ⟨(KB.out.below hb KB.out.lt).cell 0, (KB.out.below hb KB.out.lt).cell 1, (KB.out.below hb KB.out.lt).cell 2, (KB.out.below hb KB.out.lt).cell 3, (KN.out.below hb KN.out.lt).cell 0, (hb.cell (p := ⟨b2, off2 + 2, none⟩) (Nat.lt_of_lt_of_le HL2.out HB.out.size)).trans HCU.out⟩
  have HD : Hid (rowsR n (den (leafM (⟨(n : Int), (p : Int), (q : Int), acts⟩ : Mo)) (.leaf 18)) = acts[2]'(by omega)) := Lib.hid (by
    rw [HR.out, Int.toNat_natCast]
    refine rowsR_congr fun s t _ _ => ?_
    rw [den_leaf, leafM_act (by omega)]
    simp only [show ((18 : Int) - 16).toNat = 2 from rfl, List.getD]
    rw [List.getElem?_eq_getElem (by omega)]
    simp)
  have S0 := HGS.out w0 (Below.refl _ _)
  have SD := HGS.out w0.drew (Below.drew (Below.refl _ _))
  have HUD := Lib.hid (HU.out.below (Below.drew (Below.refl w0.heap.size w0)) (by omega))
  have hdz : w0.drew.heap.size = w0.heap.size := rfl
  rw [HD.out]
  clear hM hA hp hok hblk hkid hstk hpl hb0 KB_ hw0 hcm hpc hcu hu HD
  go_enter Tryz.func50, Tryz.ntmps50
  go_upto_region 2 with (first | rw [← HW.out] | (go_at_call 97; refine (isAct_any _ _).mono ?_; rintro e _ ⟨rfl, rfl⟩))
  try rw [← HW.out]
  go_region_with ((go_at_call 87; refine (cloneI_any _ _ u _ w0.drew HUD.out (by have := HRL.out; omega)).mono ?_; rintro e3 w3 ⟨v3, rfl, hb3_, o3_⟩; (have hz3 := hb3_.size); (have hbf : Below w0.heap.size w0 w3 := (Below.drew (Below.refl _ _)).trans (hb3_.mono (Nat.le_refl _))); (have S3 := HGS.out _ hbf); obtain ⟨x3a, x3c, rfl⟩ := Own.shape o3_; (have OF := Lib.hid o3_); (have HBF := Lib.hid hbf); clear o3_ hb3_ hbf))
  all_goals (
    go_wp2
    go_ret
    exact RetV.mk _ rfl ⟨OF.out.lower (by show w.heap.size ≤ w0.heap.size; omega) (Nat.le_refl _), HB.out.trans (HBF.out.mono (by omega))⟩)


set_option maxRecDepth 100000 in
set_option maxHeartbeats 6400000 in
theorem rows_test {t : Nat} (ht : t < 16) : RowsC (.leaf (t : Nat)) := by
  intro lo la ha n p q acts ptr va w hM hA hha hp hok
  obtain ⟨ps, ⟨b, kv, rfl, _, _, hblk, a, cap, rfl, hpc, hcm, hkid⟩, hstk⟩ := hp.node
  have hpl := hstk.length
  obtain ⟨sa, sc, rfl, _, _⟩ := hA.shape
  have HM := Lib.hid hM
  have HS := Lib.hid hM.small
  have hn5 := hM.n5
  obtain ⟨w0, hw0⟩ : ∃ w0, w0 = w.alloc (.cells #[.int .i64 (n : Int), .int .i64 (p : Int), .int .i64 (q : Int), .slice sa acts.length sc] 31) := ⟨_, rfl⟩
  obtain ⟨hb0, KB_, hs0⟩ := box_facts3 hw0
  have KB := Lib.hid KB_
  have HB := Lib.hid hb0
  have HA := Lib.hid (hA.below hb0 hha)
  have KN := Lib.hid (hblk.below hb0 hblk.lt)
  have HSTK := Lib.hid (hstk.mono (Keeps.below hb0))
  have hbs := hblk.lt
  have HW := Lib.hid hw0
  have HGS : Hid (∀ w' : World, Below w0.heap.size w0 w' → w'.cell? ⟨w.heap.size, 0, none⟩ = some (.int .i64 (n : Int)) ∧ w'.cell? ⟨w.heap.size, 1, none⟩ = some (.int .i64 (p : Int)) ∧ w'.cell? ⟨w.heap.size, 2, none⟩ = some (.int .i64 (q : Int)) ∧ w'.cell? ⟨w.heap.size, 3, none⟩ = some (.slice sa acts.length sc) ∧ w'.cell? ⟨b, 0, none⟩ = some (.int .i64 (t : Nat))) := Lib.hid fun w' hb => ⟨(KB.out.below hb KB.out.lt).cell 0, (KB.out.below hb KB.out.lt).cell 1, (KB.out.below hb KB.out.lt).cell 2, (KB.out.below hb KB.out.lt).cell 3, (KN.out.below hb KN.out.lt).cell 0⟩
  have HD : Hid (rowsR n (den (leafM (⟨(n : Int), (p : Int), (q : Int), acts⟩ : Mo)) (.leaf (t : Nat))) = testR (⟨(n : Int), (p : Int), (q : Int), acts⟩ : Mo) t n) := Lib.hid (by rw [testR_rows _ _ _ ht]; rfl)
  have hia : isActB (t : Int) = false := by simp [isActB]; omega
  have h19 : ((t : Int) == 19) = false := by simp; omega
  have h20 : ((t : Int) == 20) = false := by simp; omega
  have h21 : ((t : Int) == 21) = false := by simp; omega
  have S0 := HGS.out w0 (Below.refl _ _)
  have SD := HGS.out w0.drew (Below.drew (Below.refl _ _))
  have hdz : w0.drew.heap.size = w0.heap.size := rfl
  rw [HD.out]
  clear hM hA hp hok hblk hkid hstk hpl hb0 KB_ hw0 hcm hpc HD
  go_enter Tryz.func50, Tryz.ntmps50
  go_upto_region 9 with (first | rw [← HW.out] | (go_at_call 97; refine (isAct_any _ _).mono ?_; rintro e _ ⟨rfl, rfl⟩))
  try rw [← HW.out]
  go_region_held3 (fun w' => w'.cell? ⟨w.heap.size, 0, none⟩ = some (.int .i64 (n : Int)) ∧ w'.cell? ⟨w.heap.size, 1, none⟩ = some (.int .i64 (p : Int)) ∧ w'.cell? ⟨w.heap.size, 2, none⟩ = some (.int .i64 (q : Int)) ∧ w'.cell? ⟨w.heap.size, 3, none⟩ = some (.slice sa acts.length sc) ∧ w'.cell? ⟨b, 0, none⟩ = some (.int .i64 (t : Nat))) (first | with_reducible assumption | go_keep) ((go_at_call 101; refine (testRows_any (⟨(n : Int), (p : Int), (q : Int), acts⟩ : Mo) _ t n p q w0.drew rfl hn5 rfl rfl HS.out.1 HS.out.2 ht ⟨_, _, _, rfl⟩).mono ?_; rintro e3 w3 ⟨v3, rfl, o3_, hb3_⟩; (have hz3 := hb3_.size); (have hbf : Below w0.heap.size w0 w3 := (Below.drew (Below.refl _ _)).trans (hb3_.mono (Nat.le_refl _))); (have S3 := HGS.out _ hbf); obtain ⟨x3a, x3c, rfl⟩ := Own.shape o3_; (have OF := Lib.hid o3_); (have HBF := Lib.hid hbf); clear o3_ hb3_ hbf))
  go_wp2
  go_ret
  exact RetV.mk _ rfl ⟨OF.out.lower (by omega) (Nat.le_refl _), HB.out.trans (HBF.out.mono (by omega))⟩
theorem rows_any : ∀ {t : KT}, t.ok 0 = true → RowsC t
  | .leaf a, h => by
    simp only [KT.ok, Bool.and_eq_true, decide_eq_true_eq] at h
    by_cases ha : a ≤ 15
    · obtain ⟨k, rfl⟩ : ∃ k : Nat, a = k := ⟨a.toNat, by omega⟩
      exact rows_test (by omega)
    · have : a = 16 ∨ a = 17 ∨ a = 18 := by omega
      rcases this with rfl | rfl | rfl
      · exact rows_act0
      · exact rows_act1
      · exact rows_act2
  | .star a, h => rows_star (rows_any (t := a) h)
  | .bin true a b, h => by
    simp only [KT.ok, Bool.and_eq_true] at h
    exact rows_or (rows_any h.1) (rows_any h.2)
  | .bin false a b, h => by
    simp only [KT.ok, Bool.and_eq_true] at h
    exact rows_seq (rows_any h.1) (rows_any h.2)
end Go.Proofs.YtadihfjmgckdaaaGreatDoor
