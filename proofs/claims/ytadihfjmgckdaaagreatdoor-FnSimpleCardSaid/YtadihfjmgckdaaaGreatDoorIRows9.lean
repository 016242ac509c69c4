/-
  Texts of walks and plain lemmas for this seat; no condition.
-/
import Derived.Test.YtadihfjmgckdaaaGreatDoorIRows8
import Derived.Test.YtadihfjmgckdaaaGreatDoorGE
import Derived.Test.YtadihfjmgckdaaaGreatDoorGB
import Derived.Test.YtadihfjmgckdaaaGreatDoorGA
import Derived.Deep.RegionHeld3
import Derived.Deep.DeepCutAuto
import Derived.Deep.DrawnRows
namespace Go.Proofs.YtadihfjmgckdaaaGreatDoor
open Go.RowKit

/-- What is known of a valid model in memory. -/
structure MoOk (n p q : Nat) (acts : List (List Int)) : Prop where
  n1 : 1 ≤ n
  n5 : n ≤ 5
  p2 : p < 2 ^ n
  q2 : q < 2 ^ n
  len : acts.length = 3
  rows : ∀ k (h : k < acts.length), rowsB (n : Int) acts[k] = true
theorem MoOk.mod {n p q : Nat} {acts : List (List Int)} (h : MoOk n p q acts) : modB (⟨(n : Int), (p : Int), (q : Int), acts⟩ : Mo) = true := by
  have h1 : ((p : Nat) : Int) < 2 ^ n := by exact_mod_cast h.p2
  have h2 : ((q : Nat) : Int) < 2 ^ n := by exact_mod_cast h.q2
  simp only [modB, Bool.and_eq_true, decide_eq_true_eq, List.all_eq_true, inB, isSetB, Int.toNat_natCast]
  refine ⟨⟨⟨⟨⟨?_, ?_⟩, ?_, h1⟩, ?_, h2⟩, h.len⟩, fun x hx => ?_⟩
  · have := h.n1; omega
  · have := h.n5; omega
  · omega
  · omega
  · obtain ⟨k, hk, rfl⟩ := List.getElem_of_mem hx
    exact h.rows k hk
theorem MoOk.small {n p q : Nat} {acts : List (List Int)} (h : MoOk n p q acts) : p < 1099511627776 ∧ q < 1099511627776 := by
  have h5 : 2 ^ n ≤ 2 ^ 5 := Nat.pow_le_pow_right (by omega) h.n5
  have := h.p2
  have := h.q2
  omega
theorem modB_open {M : Mo} (h : modB M = true) : ∃ n p q : Nat, M.n = n ∧ M.p = p ∧ M.q = q ∧ MoOk n p q M.acts := by
  obtain ⟨n, p, q, acts⟩ := M
  simp only [modB, Bool.and_eq_true, decide_eq_true_eq, List.all_eq_true, inB, isSetB] at h
  obtain ⟨⟨⟨⟨h1, h2⟩, h3⟩, h4⟩, h5⟩ := h
  obtain ⟨n', rfl⟩ : ∃ k : Nat, n = k := ⟨n.toNat, by omega⟩
  obtain ⟨p', rfl⟩ : ∃ k : Nat, p = k := ⟨p.toNat, by omega⟩
  obtain ⟨q', rfl⟩ : ∃ k : Nat, q = k := ⟨q.toNat, by omega⟩
  rw [Int.toNat_natCast] at h2 h3
  refine ⟨n', p', q', rfl, rfl, rfl, ⟨by omega, by omega, by exact_mod_cast h2.2, by exact_mod_cast h3.2, h4, fun k hk => h5 _ (List.getElem_mem hk)⟩⟩
theorem then_rows {n : Nat} {R S : Nat → Nat → Prop} (hR : Closed n R) : ((rowsR n R).map fun x => ((imgT (rowsR n S) x.toNat (rowsR n S).length : Nat) : Int)) = rowsR n (fun s t => ∃ u, R s u ∧ S u t) := by
  rw [rowsR_length]
  unfold rowsR
  rw [List.map_map]
  apply List.map_congr_left
  intro s hs
  have hs : s < n := by simpa using hs
  simp only [Function.comp_apply, Int.toNat_natCast]
  congr 1
  exact img_seq hR rfl hs
theorem plus_rows (n : Nat) (R S : Nat → Nat → Prop) : ((List.range (rowsR n R).length).map fun k => ((((rowsR n R).getD k 0).toNat ||| ((rowsR n S).getD k 0).toNat : Nat) : Int)) = rowsR n (fun s t => R s t ∨ S s t) := by
  rw [rowsR_length]
  conv => rhs; unfold rowsR
  apply List.map_congr_left
  intro s hs
  have hs : s < n := by simpa using hs
  have h1 : ∀ R : Nat → Nat → Prop, ((rowsR n R).getD s 0).toNat = bitsN n (R s) := fun R => by
    have h : s < (rowsR n R).length := by rw [rowsR_length]; exact hs
    simp only [List.getD, List.getElem?_eq_getElem h, Option.getD_some, rowsR_get, Int.toNat_natCast]
  rw [h1, h1, or_rows]
def RowsC (t : KT) : Prop := ∀ (lo la ha n p q : Nat) (acts : List (List Int)) (ptr va : Value) (w : World), MoOk n p q acts → SlLL la ha w va acts → ha ≤ w.heap.size → RT lo none w t ptr → t.ok 0 = true →
  Calls Tryz.prog 50 #[aggMo (⟨(n : Int), (p : Int), (q : Int), acts⟩ : Mo) va, ptr] w (RowsNew w (rowsR n (den (leafM (⟨(n : Int), (p : Int), (q : Int), acts⟩ : Mo)) t)))


set_option maxRecDepth 100000 in
set_option maxHeartbeats 6400000 in
theorem rows_seq {a' b' : KT} (iha : RowsC a') (ihb : RowsC b') : RowsC (.bin false a' b') := by
  intro lo la ha n p q acts ptr va w hM hA hha hp hok
  obtain ⟨ps, ⟨b, kv, rfl, _, _, hblk, a, cap, rfl, hpc, hcm, hkid⟩, hstk⟩ := hp.node
  have hpl := hstk.length
  obtain ⟨sa, sc, rfl, _, _⟩ := hA.shape
  have HM := Lib.hid hM
  have HS := Lib.hid hM.small
  have hn5 := hM.n5
  obtain ⟨w0, hw0⟩ : ∃ w0, w0 = w.alloc (.cells #[.int .i64 (n : Int), .int .i64 (p : Int), .int .i64 (q : Int), .slice sa acts.length sc] 31) := ⟨_, rfl⟩
  obtain ⟨hb0, KB_, hs0⟩ := box_facts3 hw0
  have KB := Lib.hid KB_
  have HB := Lib.hid hb0
  have HA := Lib.hid (hA.below hb0 hha)
  have KN := Lib.hid (hblk.below hb0 hblk.lt)
  have HSTK := Lib.hid (hstk.mono (Keeps.below hb0))
  have hbs := hblk.lt
  have HW := Lib.hid hw0
  simp only [KT.kids, List.length_cons, List.length_nil] at hpl
  obtain ⟨u0, u1, rfl⟩ : ∃ u0 u1, ps = [u0, u1] := by
    match ps, hpl with
    | [x, y], _ => exact ⟨x, y, rfl⟩
  obtain ⟨gk, ok, rfl, _, _, hgk, kc0⟩ := hkid 0 (by simp)
  obtain ⟨gk', ok', e1, _, _, _, kc1⟩ := hkid 1 (by simp)
  injection e1 with e1
  injection e1 with e1 e2
  subst e1 e2
  have KC0 := Lib.hid ((hb0.cell (p := ⟨gk, ok + 0, none⟩) hgk).trans kc0)
  have KC1 := Lib.hid ((hb0.cell (p := ⟨gk, ok + 1, none⟩) hgk).trans kc1)
  have HLN := Lib.hid hgk
  have HIHa : Hid (∀ w', Below w0.heap.size w0 w' → Calls Tryz.prog 50 #[.agg #[.int .i64 (n : Int), .int .i64 (p : Int), .int .i64 (q : Int), .slice sa acts.length sc], u0] w' (RowsNew w' (rowsR n (den (leafM (⟨(n : Int), (p : Int), (q : Int), acts⟩ : Mo)) a')))) := Lib.hid fun w' hb => iha lo la ha n p q acts u0 _ w' HM.out (HA.out.below hb (by omega)) (Nat.le_trans hha (Nat.le_trans (by omega) hb.size)) (RT.below HSTK.out.1 hb) (by simp only [KT.ok, Bool.and_eq_true] at hok; exact hok.1)
  have HIHb : Hid (∀ w', Below w0.heap.size w0 w' → Calls Tryz.prog 50 #[.agg #[.int .i64 (n : Int), .int .i64 (p : Int), .int .i64 (q : Int), .slice sa acts.length sc], u1] w' (RowsNew w' (rowsR n (den (leafM (⟨(n : Int), (p : Int), (q : Int), acts⟩ : Mo)) b')))) := Lib.hid fun w' hb => ihb lo la ha n p q acts u1 _ w' HM.out (HA.out.below hb (by omega)) (Nat.le_trans hha (Nat.le_trans (by omega) hb.size)) (RT.below HSTK.out.2.1 hb) (by simp only [KT.ok, Bool.and_eq_true] at hok; exact hok.2)
  have HGS : Hid (∀ w' : World, Below w0.heap.size w0 w' → w'.cell? ⟨w.heap.size, 0, none⟩ = some (.int .i64 (n : Int)) ∧ w'.cell? ⟨w.heap.size, 1, none⟩ = some (.int .i64 (p : Int)) ∧ w'.cell? ⟨w.heap.size, 2, none⟩ = some (.int .i64 (q : Int)) ∧ w'.cell? ⟨w.heap.size, 3, none⟩ = some (.slice sa acts.length sc) ∧ w'.cell? ⟨b, 0, none⟩ = some (.int .i64 19) ∧ w'.cell? ⟨b, 1, none⟩ = some (.slice (some ⟨gk, ok, none⟩) 2 cap) ∧ w'.cell? ⟨gk, ok, none⟩ = some u0 ∧ w'.cell? ⟨gk, ok + 1, none⟩ = some u1) := Lib.hid fun w' hb => ⟨(KB.out.below hb KB.out.lt).cell 0, (KB.out.below hb KB.out.lt).cell 1, (KB.out.below hb KB.out.lt).cell 2, (KB.out.below hb KB.out.lt).cell 3, (KN.out.below hb KN.out.lt).cell 0, (KN.out.below hb KN.out.lt).cell 1, (hb.cell (p := ⟨gk, ok + 0, none⟩) (Nat.lt_of_lt_of_le HLN.out HB.out.size)).trans KC0.out, (hb.cell (p := ⟨gk, ok + 1, none⟩) (Nat.lt_of_lt_of_le HLN.out HB.out.size)).trans KC1.out⟩
  have HCl : Hid (Closed n (den (leafM (⟨(n : Int), (p : Int), (q : Int), acts⟩ : Mo)) a') ∧ Closed n (den (leafM (⟨(n : Int), (p : Int), (q : Int), acts⟩ : Mo)) b')) := Lib.hid (by have := HM.out.mod; simp only [KT.ok, Bool.and_eq_true] at hok; exact ⟨den_closed this _ hok.1, den_closed this _ hok.2⟩)
  have HI5 : inB (n : Int) 1 5 = true := by have := HM.out.n1; simp [inB]; omega
  have HV1 := Lib.hid (rowsR_valid HI5 (den (leafM (⟨(n : Int), (p : Int), (q : Int), acts⟩ : Mo)) a'))
  have HV2 := Lib.hid (rowsR_valid HI5 (den (leafM (⟨(n : Int), (p : Int), (q : Int), acts⟩ : Mo)) b'))
  rw [Int.toNat_natCast] at HV1 HV2
  have HI := Lib.hid HI5
  have S0 := HGS.out w0 (Below.refl _ _)
  have SD := HGS.out w0.drew (Below.drew (Below.refl _ _))
  have hdz : w0.drew.heap.size = w0.heap.size := rfl
  clear hM hA hp hok hblk hkid hstk hpl hb0 KB_ hw0 hcm hpc HI5 kc0 kc1
  go_enter Tryz.func50, Tryz.ntmps50
  go_upto_region 4 with (first | rw [← HW.out] | (go_at_call 97; refine (isAct_any _ _).mono ?_; rintro e _ ⟨rfl, rfl⟩))
  try rw [← HW.out]
  go_region_held3 (fun w' => w'.cell? ⟨w.heap.size, 0, none⟩ = some (.int .i64 (n : Int)) ∧ w'.cell? ⟨w.heap.size, 1, none⟩ = some (.int .i64 (p : Int)) ∧ w'.cell? ⟨w.heap.size, 2, none⟩ = some (.int .i64 (q : Int)) ∧ w'.cell? ⟨w.heap.size, 3, none⟩ = some (.slice sa acts.length sc) ∧ w'.cell? ⟨b, 0, none⟩ = some (.int .i64 19) ∧ w'.cell? ⟨b, 1, none⟩ = some (.slice (some ⟨gk, ok, none⟩) 2 cap) ∧ w'.cell? ⟨gk, ok, none⟩ = some u0 ∧ w'.cell? ⟨gk, ok + 1, none⟩ = some u1) (first | with_reducible assumption | go_keep) (first
    | (go_at_call_of 50 u0; refine (HIHa.out w0.drew (Below.drew (Below.refl _ _))).mono ?_; rintro e1 w1 ⟨v1, rfl, o1_, hb1_⟩; (have hz1 := hb1_.size); (have hb1 : Below w0.heap.size w0 w1 := (Below.drew (Below.refl _ _)).trans (hb1_.mono (Nat.le_refl _))); (have S1 := HGS.out _ hb1); obtain ⟨x1a, x1c, rfl⟩ := Own.shape o1_; (have O1 := Lib.hid o1_.sl); (have HB1 := Lib.hid hb1); clear o1_ hb1_ hb1)
    | (go_at_call_of 50 u1; refine (HIHb.out w1 HB1.out).mono ?_; rintro e2 w2 ⟨v2, rfl, o2_, hb2_⟩; (have hz2 := hb2_.size); (have hb2 : Below w0.heap.size w0 w2 := HB1.out.trans (hb2_.mono (by omega))); (have S2 := HGS.out _ hb2); (replace O1 := Lib.hid (O1.out.below hb2_ (Nat.le_refl _))); obtain ⟨x2a, x2c, rfl⟩ := Own.shape o2_; (have O2 := Lib.hid o2_.sl); (have HB2 := Lib.hid hb2); clear o2_ hb2_ hb2)
    | (go_at_call 98; refine (rowsThen_any _ _ _ _ _ _ _ _ _ w2 O1.out O2.out (by omega) (Nat.le_refl _) HV1.out HV2.out).mono ?_; rintro e3 w3 ⟨v3, rfl, o3_, hb3_⟩; rw [then_rows HCl.out.1] at o3_; (have hz3 := hb3_.size); (have hbf : Below w0.heap.size w0 w3 := HB2.out.trans (hb3_.mono (by omega))); (have S3 := HGS.out _ hbf); obtain ⟨x3a, x3c, rfl⟩ := Own.shape o3_; (have OF := Lib.hid o3_); (have HBF := Lib.hid hbf); clear o3_ hb3_ hbf))
  go_wp2
  go_ret
  exact RetV.mk _ rfl ⟨OF.out.lower (by omega) (Nat.le_refl _), HB.out.trans (HBF.out.mono (by omega))⟩


set_option maxRecDepth 100000 in
set_option maxHeartbeats 6400000 in
theorem rows_or {a' b' : KT} (iha : RowsC a') (ihb : RowsC b') : RowsC (.bin true a' b') := by
  intro lo la ha n p q acts ptr va w hM hA hha hp hok
  obtain ⟨ps, ⟨b, kv, rfl, _, _, hblk, a, cap, rfl, hpc, hcm, hkid⟩, hstk⟩ := hp.node
  have hpl := hstk.length
  obtain ⟨sa, sc, rfl, _, _⟩ := hA.shape
  have HM := Lib.hid hM
  have HS := Lib.hid hM.small
  have hn5 := hM.n5
  obtain ⟨w0, hw0⟩ : ∃ w0, w0 = w.alloc (.cells #[.int .i64 (n : Int), .int .i64 (p : Int), .int .i64 (q : Int), .slice sa acts.length sc] 31) := ⟨_, rfl⟩
  obtain ⟨hb0, KB_, hs0⟩ := box_facts3 hw0
  have KB := Lib.hid KB_
  have HB := Lib.hid hb0
  have HA := Lib.hid (hA.below hb0 hha)
  have KN := Lib.hid (hblk.below hb0 hblk.lt)
  have HSTK := Lib.hid (hstk.mono (Keeps.below hb0))
  have hbs := hblk.lt
  have HW := Lib.hid hw0
  simp only [KT.kids, List.length_cons, List.length_nil] at hpl
  obtain ⟨u0, u1, rfl⟩ : ∃ u0 u1, ps = [u0, u1] := by
    match ps, hpl with
    | [x, y], _ => exact ⟨x, y, rfl⟩
  obtain ⟨gk, ok, rfl, _, _, hgk, kc0⟩ := hkid 0 (by simp)
  obtain ⟨gk', ok', e1, _, _, _, kc1⟩ := hkid 1 (by simp)
  injection e1 with e1
  injection e1 with e1 e2
  subst e1 e2
  have KC0 := Lib.hid ((hb0.cell (p := ⟨gk, ok + 0, none⟩) hgk).trans kc0)
  have KC1 := Lib.hid ((hb0.cell (p := ⟨gk, ok + 1, none⟩) hgk).trans kc1)
  have HLN := Lib.hid hgk
  have HIHa : Hid (∀ w', Below w0.heap.size w0 w' → Calls Tryz.prog 50 #[.agg #[.int .i64 (n : Int), .int .i64 (p : Int), .int .i64 (q : Int), .slice sa acts.length sc], u0] w' (RowsNew w' (rowsR n (den (leafM (⟨(n : Int), (p : Int), (q : Int), acts⟩ : Mo)) a')))) := Lib.hid fun w' hb => iha lo la ha n p q acts u0 _ w' HM.out (HA.out.below hb (by omega)) (Nat.le_trans hha (Nat.le_trans (by omega) hb.size)) (RT.below HSTK.out.1 hb) (by simp only [KT.ok, Bool.and_eq_true] at hok; exact hok.1)
  have HIHb : Hid (∀ w', Below w0.heap.size w0 w' → Calls Tryz.prog 50 #[.agg #[.int .i64 (n : Int), .int .i64 (p : Int), .int .i64 (q : Int), .slice sa acts.length sc], u1] w' (RowsNew w' (rowsR n (den (leafM (⟨(n : Int), (p : Int), (q : Int), acts⟩ : Mo)) b')))) := Lib.hid fun w' hb => ihb lo la ha n p q acts u1 _ w' HM.out (HA.out.below hb (by omega)) (Nat.le_trans hha (Nat.le_trans (by omega) hb.size)) (RT.below HSTK.out.2.1 hb) (by simp only [KT.ok, Bool.and_eq_true] at hok; exact hok.2)
  have HGS : Hid (∀ w' : World, Below w0.heap.size w0 w' → w'.cell? ⟨w.heap.size, 0, none⟩ = some (.int .i64 (n : Int)) ∧ w'.cell? ⟨w.heap.size, 1, none⟩ = some (.int .i64 (p : Int)) ∧ w'.cell? ⟨w.heap.size, 2, none⟩ = some (.int .i64 (q : Int)) ∧ w'.cell? ⟨w.heap.size, 3, none⟩ = some (.slice sa acts.length sc) ∧ w'.cell? ⟨b, 0, none⟩ = some (.int .i64 20) ∧ w'.cell? ⟨b, 1, none⟩ = some (.slice (some ⟨gk, ok, none⟩) 2 cap) ∧ w'.cell? ⟨gk, ok, none⟩ = some u0 ∧ w'.cell? ⟨gk, ok + 1, none⟩ = some u1) := Lib.hid fun w' hb => ⟨(KB.out.below hb KB.out.lt).cell 0, (KB.out.below hb KB.out.lt).cell 1, (KB.out.below hb KB.out.lt).cell 2, (KB.out.below hb KB.out.lt).cell 3, (KN.out.below hb KN.out.lt).cell 0, (KN.out.below hb KN.out.lt).cell 1, (hb.cell (p := ⟨gk, ok + 0, none⟩) (Nat.lt_of_lt_of_le HLN.out HB.out.size)).trans KC0.out, (hb.cell (p := ⟨gk, ok + 1, none⟩) (Nat.lt_of_lt_of_le HLN.out HB.out.size)).trans KC1.out⟩
  have HCl : Hid (Closed n (den (leafM (⟨(n : Int), (p : Int), (q : Int), acts⟩ : Mo)) a') ∧ Closed n (den (leafM (⟨(n : Int), (p : Int), (q : Int), acts⟩ : Mo)) b')) := Lib.hid (by have := HM.out.mod; simp only [KT.ok, Bool.and_eq_true] at hok; exact ⟨den_closed this _ hok.1, den_closed this _ hok.2⟩)
  have HI5 : inB (n : Int) 1 5 = true := by have := HM.out.n1; simp [inB]; omega
  have HV1 := Lib.hid (rowsR_valid HI5 (den (leafM (⟨(n : Int), (p : Int), (q : Int), acts⟩ : Mo)) a'))
  have HV2 := Lib.hid (rowsR_valid HI5 (den (leafM (⟨(n : Int), (p : Int), (q : Int), acts⟩ : Mo)) b'))
  rw [Int.toNat_natCast] at HV1 HV2
  have HI := Lib.hid HI5
  have S0 := HGS.out w0 (Below.refl _ _)
  have SD := HGS.out w0.drew (Below.drew (Below.refl _ _))
  have hdz : w0.drew.heap.size = w0.heap.size := rfl
  clear hM hA hp hok hblk hkid hstk hpl hb0 KB_ hw0 hcm hpc HI5 kc0 kc1
  go_enter Tryz.func50, Tryz.ntmps50
  go_upto_region 6 with (first | rw [← HW.out] | (go_at_call 97; refine (isAct_any _ _).mono ?_; rintro e _ ⟨rfl, rfl⟩))
  try rw [← HW.out]
  go_region_held3 (fun w' => w'.cell? ⟨w.heap.size, 0, none⟩ = some (.int .i64 (n : Int)) ∧ w'.cell? ⟨w.heap.size, 1, none⟩ = some (.int .i64 (p : Int)) ∧ w'.cell? ⟨w.heap.size, 2, none⟩ = some (.int .i64 (q : Int)) ∧ w'.cell? ⟨w.heap.size, 3, none⟩ = some (.slice sa acts.length sc) ∧ w'.cell? ⟨b, 0, none⟩ = some (.int .i64 20) ∧ w'.cell? ⟨b, 1, none⟩ = some (.slice (some ⟨gk, ok, none⟩) 2 cap) ∧ w'.cell? ⟨gk, ok, none⟩ = some u0 ∧ w'.cell? ⟨gk, ok + 1, none⟩ = some u1) (first | with_reducible assumption | go_keep) (first
    | (go_at_call_of 50 u0; refine (HIHa.out w0.drew (Below.drew (Below.refl _ _))).mono ?_; rintro e1 w1 ⟨v1, rfl, o1_, hb1_⟩; (have hz1 := hb1_.size); (have hb1 : Below w0.heap.size w0 w1 := (Below.drew (Below.refl _ _)).trans (hb1_.mono (Nat.le_refl _))); (have S1 := HGS.out _ hb1); obtain ⟨x1a, x1c, rfl⟩ := Own.shape o1_; (have O1 := Lib.hid o1_.sl); (have HB1 := Lib.hid hb1); clear o1_ hb1_ hb1)
    | (go_at_call_of 50 u1; refine (HIHb.out w1 HB1.out).mono ?_; rintro e2 w2 ⟨v2, rfl, o2_, hb2_⟩; (have hz2 := hb2_.size); (have hb2 : Below w0.heap.size w0 w2 := HB1.out.trans (hb2_.mono (by omega))); (have S2 := HGS.out _ hb2); (replace O1 := Lib.hid (O1.out.below hb2_ (Nat.le_refl _))); obtain ⟨x2a, x2c, rfl⟩ := Own.shape o2_; (have O2 := Lib.hid o2_.sl); (have HB2 := Lib.hid hb2); clear o2_ hb2_ hb2)
    | (go_at_call 99; refine (rowsPlus_any _ _ _ _ _ _ _ _ _ w2 O1.out O2.out (by omega) (Nat.le_refl _) HV1.out HV2.out).mono ?_; rintro e3 w3 ⟨v3, rfl, o3_, hb3_⟩; rw [plus_rows] at o3_; (have hz3 := hb3_.size); (have hbf : Below w0.heap.size w0 w3 := HB2.out.trans (hb3_.mono (by omega))); (have S3 := HGS.out _ hbf); obtain ⟨x3a, x3c, rfl⟩ := Own.shape o3_; (have OF := Lib.hid o3_); (have HBF := Lib.hid hbf); clear o3_ hb3_ hbf))
  go_wp2
  go_ret
  exact RetV.mk _ rfl ⟨OF.out.lower (by omega) (Nat.le_refl _), HB.out.trans (HBF.out.mono (by omega))⟩


set_option maxRecDepth 100000 in
set_option maxHeartbeats 6400000 in
theorem rows_star {a' : KT} (iha : RowsC a') : RowsC (.star a') := by
  intro lo la ha n p q acts ptr va w hM hA hha hp hok
  obtain ⟨ps, ⟨b, kv, rfl, _, _, hblk, a, cap, rfl, hpc, hcm, hkid⟩, hstk⟩ := hp.node
  have hpl := hstk.length
  obtain ⟨sa, sc, rfl, _, _⟩ := hA.shape
  have HM := Lib.hid hM
  have HS := Lib.hid hM.small
  have hn5 := hM.n5
  obtain ⟨w0, hw0⟩ : ∃ w0, w0 = w.alloc (.cells #[.int .i64 (n : Int), .int .i64 (p : Int), .int .i64 (q : Int), .slice sa acts.length sc] 31) := ⟨_, rfl⟩
  obtain ⟨hb0, KB_, hs0⟩ := box_facts3 hw0
  have KB := Lib.hid KB_
  have HB := Lib.hid hb0
  have HA := Lib.hid (hA.below hb0 hha)
  have KN := Lib.hid (hblk.below hb0 hblk.lt)
  have HSTK := Lib.hid (hstk.mono (Keeps.below hb0))
  have hbs := hblk.lt
  have HW := Lib.hid hw0
  simp only [KT.kids, List.length_cons, List.length_nil] at hpl
  obtain ⟨u0, rfl⟩ : ∃ u0, ps = [u0] := by
    match ps, hpl with
    | [x], _ => exact ⟨x, rfl⟩
  obtain ⟨gk, ok, rfl, _, _, hgk, kc0⟩ := hkid 0 (by simp)
  have KC0 := Lib.hid ((hb0.cell (p := ⟨gk, ok + 0, none⟩) hgk).trans kc0)
  have HLN := Lib.hid hgk
  have HIHa : Hid (∀ w', Below w0.heap.size w0 w' → Calls Tryz.prog 50 #[.agg #[.int .i64 (n : Int), .int .i64 (p : Int), .int .i64 (q : Int), .slice sa acts.length sc], u0] w' (RowsNew w' (rowsR n (den (leafM (⟨(n : Int), (p : Int), (q : Int), acts⟩ : Mo)) a')))) := Lib.hid fun w' hb => iha lo la ha n p q acts u0 _ w' HM.out (HA.out.below hb (by omega)) (Nat.le_trans hha (Nat.le_trans (by omega) hb.size)) (RT.below HSTK.out.1 hb) hok
  have HGS : Hid (∀ w' : World, Below w0.heap.size w0 w' → w'.cell? ⟨w.heap.size, 0, none⟩ = some (.int .i64 (n : Int)) ∧ w'.cell? ⟨w.heap.size, 1, none⟩ = some (.int .i64 (p : Int)) ∧ w'.cell? ⟨w.heap.size, 2, none⟩ = some (.int .i64 (q : Int)) ∧ w'.cell? ⟨w.heap.size, 3, none⟩ = some (.slice sa acts.length sc) ∧ w'.cell? ⟨b, 0, none⟩ = some (.int .i64 21) ∧ w'.cell? ⟨b, 1, none⟩ = some (.slice (some ⟨gk, ok, none⟩) 1 cap) ∧ w'.cell? ⟨gk, ok, none⟩ = some u0) := Lib.hid fun w' hb => ⟨(KB.out.below hb KB.out.lt).cell 0, (KB.out.below hb KB.out.lt).cell 1, (KB.out.below hb KB.out.lt).cell 2, (KB.out.below hb KB.out.lt).cell 3, (KN.out.below hb KN.out.lt).cell 0, (KN.out.below hb KN.out.lt).cell 1, (hb.cell (p := ⟨gk, ok + 0, none⟩) (Nat.lt_of_lt_of_le HLN.out HB.out.size)).trans KC0.out⟩
  have HCl : Hid (Closed n (den (leafM (⟨(n : Int), (p : Int), (q : Int), acts⟩ : Mo)) a')) := Lib.hid (by have := HM.out.mod; exact den_closed this _ hok)
  have HI5 : inB (n : Int) 1 5 = true := by have := HM.out.n1; simp [inB]; omega
  have HV1 := Lib.hid (rowsR_valid HI5 (den (leafM (⟨(n : Int), (p : Int), (q : Int), acts⟩ : Mo)) a'))
  rw [Int.toNat_natCast] at HV1
  have HI := Lib.hid HI5
  have S0 := HGS.out w0 (Below.refl _ _)
  have SD := HGS.out w0.drew (Below.drew (Below.refl _ _))
  have hdz : w0.drew.heap.size = w0.heap.size := rfl
  clear hM hA hp hok hblk hkid hstk hpl hb0 KB_ hw0 hcm hpc HI5 kc0 
  go_enter Tryz.func50, Tryz.ntmps50
  go_upto_region 8 with (first | rw [← HW.out] | (go_at_call 97; refine (isAct_any _ _).mono ?_; rintro e _ ⟨rfl, rfl⟩))
  try rw [← HW.out]
  go_region_held3 (fun w' => w'.cell? ⟨w.heap.size, 0, none⟩ = some (.int .i64 (n : Int)) ∧ w'.cell? ⟨w.heap.size, 1, none⟩ = some (.int .i64 (p : Int)) ∧ w'.cell? ⟨w.heap.size, 2, none⟩ = some (.int .i64 (q : Int)) ∧ w'.cell? ⟨w.heap.size, 3, none⟩ = some (.slice sa acts.length sc) ∧ w'.cell? ⟨b, 0, none⟩ = some (.int .i64 21) ∧ w'.cell? ⟨b, 1, none⟩ = some (.slice (some ⟨gk, ok, none⟩) 1 cap) ∧ w'.cell? ⟨gk, ok, none⟩ = some u0) (first | with_reducible assumption | go_keep) (first
    | (go_at_call_of 50 u0; refine (HIHa.out w0.drew (Below.drew (Below.refl _ _))).mono ?_; rintro e1 w1 ⟨v1, rfl, o1_, hb1_⟩; (have hz1 := hb1_.size); (have hb1 : Below w0.heap.size w0 w1 := (Below.drew (Below.refl _ _)).trans (hb1_.mono (Nat.le_refl _))); (have S1 := HGS.out _ hb1); obtain ⟨x1a, x1c, rfl⟩ := Own.shape o1_; (have O1 := Lib.hid o1_.sl); (have HB1 := Lib.hid hb1); clear o1_ hb1_ hb1)
    | (go_at_call 100; refine (rowsStar_any _ _ _ _ _ _ w1 O1.out (Nat.le_refl _) HV1.out (by rw [Int.toNat_natCast]) (by rw [Int.toNat_natCast]; exact HCl.out)).mono ?_; rintro e3 w3 ⟨v3, rfl, o3_, hb3_⟩; rw [Int.toNat_natCast] at o3_; (have hz3 := hb3_.size); (have hbf : Below w0.heap.size w0 w3 := HB1.out.trans (hb3_.mono (by omega))); (have S3 := HGS.out _ hbf); obtain ⟨x3a, x3c, rfl⟩ := Own.shape o3_; (have OF := Lib.hid o3_); (have HBF := Lib.hid hbf); clear o3_ hb3_ hbf))
  go_wp2
  go_ret
  exact RetV.mk _ rfl ⟨OF.out.lower (by omega) (Nat.le_refl _), HB.out.trans (HBF.out.mono (by omega))⟩
end Go.Proofs.YtadihfjmgckdaaaGreatDoor
