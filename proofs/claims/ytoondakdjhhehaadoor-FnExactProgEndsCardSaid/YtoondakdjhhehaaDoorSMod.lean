/-
  Texts of walks and plain lemmas for this seat; no condition.
-/
import Derived.Test.YtoondakdjhhehaaDoorSBits
import Derived.Test.YtoondakdjhhehaaDoorCertI
import Derived.Deep.QuietTactic
import Derived.BigQuiet
import Derived.Deep.RegionHeld3
import Derived.Deep.DrawnRows
import Derived.IntWalk
namespace Go.Proofs.YtoondakdjhhehaaDoor
open Go.RowKit

theorem pow_wrapI : ∀ {k : Nat}, k < 21 → IntKind.i64.wrap (2 ^ k) = ((2 ^ k : Nat) : Int) := by decide +kernel
theorem l1In_q (n lo hi : Int) (w : World) : Calls Tryd.prog 44 #[.int .i64 n, .int .i64 lo, .int .i64 hi] w fun e w' => e = .returned (.bool (inB n lo hi)) ∧ w' = w :=
  (l1In_any n lo hi w).mono fun _ _ ⟨h, k⟩ => ⟨h, k.symm⟩
theorem l1BitG_q (t k : Nat) (ht : t < 1099511627776) (hk : k ≤ 60) (w : World) : Calls Tryd.prog 45 #[.int .i64 t, .int .i64 k] w fun e w' => e = .returned (.int .i64 (bitI t k)) ∧ w' = w :=
  (l1BitG t k ht hk w).mono fun _ _ ⟨h, k⟩ => ⟨h, k.symm⟩
theorem l1BothG_q (a b : Nat) (ha : a < 1048576) (hb : b < 1048576) (w : World) : Calls Tryd.prog 65 #[.int .i64 a, .int .i64 b] w fun e w' => e = .returned (.int .i64 ((a &&& b : Nat) : Int)) ∧ w' = w :=
  (l1BothG a b ha hb w).mono fun _ _ ⟨h, k⟩ => ⟨h, k.symm⟩

theorem isSet_in {n x : Int} {m K : Nat} (hm : min (max n 0) 5 = (m : Int)) (hK : K = 2 ^ m) (hn : inB n 1 5 = true) : isSetB n x = inB x 0 ((K : Int) - 1) := by
  simp only [inB, Bool.and_eq_true, decide_eq_true_eq] at hn
  have e : n.toNat = m := by omega
  have e2 : (2 : Int) ^ n.toNat = (K : Int) := by rw [e, hK]; push_cast; rfl
  rw [isSetB, e2, inB, Bool.eq_iff_iff]
  simp only [Bool.and_eq_true, decide_eq_true_eq]
  omega
theorem rowsB_not {n : Int} {xs : List Int} {m K : Nat} (hm : min (max n 0) 5 = (m : Int)) (hK : K = 2 ^ m) {k : Nat} (hk : k < xs.length) (h : inB xs[k] 0 ((K : Int) - 1) = false) : rowsB n xs = false := by
  cases hn : inB n 1 5 with
  | false => simp [rowsB, hn]
  | true =>
    rw [← isSet_in hm hK hn] at h
    rw [Bool.eq_false_iff]
    intro he
    simp only [rowsB, Bool.and_eq_true, List.all_eq_true] at he
    have := he.2 _ (List.getElem_mem hk)
    rw [h] at this
    cases this
theorem rowsB_all {n : Int} {xs : List Int} {m K : Nat} (hm : min (max n 0) 5 = (m : Int)) (hK : K = 2 ^ m) (h : ∀ k (hk : k < xs.length), inB xs[k] 0 ((K : Int) - 1) = true) : rowsB n xs = (inB n 1 5 && decide ((xs.length : Int) = n)) := by
  cases hn : inB n 1 5 with
  | false => simp [rowsB, hn]
  | true =>
    simp only [rowsB, hn, Bool.true_and]
    have : xs.all (isSetB n) = true := by
      rw [List.all_eq_true]
      intro x hx
      obtain ⟨k, hk, rfl⟩ := List.getElem_of_mem hx
      rw [isSet_in hm hK hn]
      exact h k hk
    rw [this, Bool.and_true]

set_option maxRecDepth 100000 in
set_option maxHeartbeats 1600000 in
theorem spec_RowsValid (lo hi : Nat) (n : Int) (v : Value) (xs : List Int) (w : World) (hx : SlI lo hi w v xs) (hm : xs.length ≤ 1048576) :
    Calls Tryd.prog 88 #[.int .i64 n, v] w fun e w' => e = .returned (.bool (rowsB n xs)) ∧ ∃ q, w' = w.drewN q := by
  obtain ⟨m, hmm, hm5⟩ : ∃ m : Nat, min (max n 0) 5 = (m : Int) ∧ m ≤ 5 := ⟨(min (max n 0) 5).toNat, by omega, by omega⟩
  obtain ⟨K, hK⟩ : ∃ K : Nat, K = 2 ^ m := ⟨_, rfl⟩
  have pw := pow_wrap20 (k := m) (by omega)
  have pwI := pow_wrapI (k := m) (by omega)
  rw [← hK] at pw pwI
  have hK32 : K ≤ 32 := by rw [hK]; exact Nat.pow_le_pow_right (n := 2) (by omega) (show m ≤ 5 from hm5)
  have hK1 : 1 ≤ K := by rw [hK]; exact Nat.two_pow_pos m
  have HF : Hid (∀ k (hk : k < xs.length), inB xs[k] 0 ((K : Int) - 1) = false → rowsB n xs = false) := Lib.hid fun k hk h => rowsB_not hmm hK hk h
  have HT : Hid ((∀ k (hk : k < xs.length), inB xs[k] 0 ((K : Int) - 1) = true) → rowsB n xs = (inB n 1 5 && decide ((xs.length : Int) = n))) := Lib.hid fun h => rowsB_all hmm hK h
  obtain ⟨r, hr⟩ : ∃ r, r = rowsB n xs := ⟨_, rfl⟩
  rw [← hr] at HF HT ⊢
  clear hr hK
  have HX := Lib.hid hx
  obtain ⟨a, cap, rfl, hcap, hcm, _⟩ := hx.open
  clear hx hcap hcm
  go_enter Tryd.func88, Tryd.ntmps88
  go_wp2
  go_loopw [5] (fun i wr => ∃ k q : Nat, k ≤ xs.length ∧ i = .int .i64 k ∧ Hid (∀ j (hj : j < xs.length), j < k → inB xs[j] 0 ((K : Int) - 1) = true) ∧ wr = w.drewN q) (fun i _ => xs.length - (intOf i).toNat)
  case atStart => exact ⟨0, 0, by omega, rfl, Lib.hid (by intro j hj h; omega), rfl⟩
  case round =>
    obtain ⟨k, q, hk, rfl, HD, rfl⟩ := hrel
    by_cases hlt : k < xs.length
    · obtain ⟨b, off, rfl, _, _, _, hc⟩ := HX.out.get k hlt
      have HXk := Lib.hid (show xs[k] = xs[k] from rfl)
      obtain ⟨x, hx⟩ : ∃ x, x = xs[k] := ⟨_, rfl⟩
      have HX2 := Lib.hid hx
      rw [← hx] at hc
      clear hx HXk
      go_wp2
      have i1 : (k : Int) < xs.length := by omega
      have pw2 := pwI
      have pw3 : IntKind.i64.wrap ((K : Int) - 1) = (K : Int) - 1 := IntWalk.i64_in _ (by omega)
      go_region_held3 (fun w' => w'.cell? ⟨b, off + k, none⟩ = some (.int .i64 x)) (first | with_reducible assumption | go_keep) (first
        | (go_at_call 44; refine (l1In_any _ _ _ _).mono ?_; rintro e _ ⟨rfl, rfl⟩))
      cases hb : inB x 0 ((K : Int) - 1)
      · have HE : Hid (r = false) := Lib.hid (HF.out k hlt (by rw [← HX2.out]; exact hb))
        clear hb pw2 pw3
        go_wp2
        go_ret
        exact ⟨ret_bool HE.out.symm, _, rfl⟩
      · have HE := Lib.hid hb
        clear hb pw2 pw3
        go_wp2
        go_roundw
        case rel =>
          refine ⟨k + 1, q + 1, by omega, by go_num, Lib.hid fun j hj hjk => ?_, rfl⟩
          by_cases e : j < k
          · exact HD.out j hj e
          · obtain rfl : j = k := by omega
            rw [← HX2.out]
            exact HE.out
        case measure => simp [intOf]; omega
    · have HE : Hid (r = (inB n 1 5 && decide ((xs.length : Int) = n))) := Lib.hid (HT.out fun j hj => HD.out j hj (by omega))
      go_wp2_with fail
      refine (l1In_any n 1 5 _).mono ?_
      rintro e _ ⟨rfl, rfl⟩
      cases hb : inB n 1 5
      · rw [hb, Bool.false_and] at HE
        go_wp2
        go_ret
        exact ⟨ret_bool HE.out.symm, _, rfl⟩
      · rw [hb, Bool.true_and] at HE
        go_wp2
        go_ret
        exact ⟨ret_bool (by rw [HE.out]; rfl), _, rfl⟩
theorem spec_RowsValidB (lo hi : Nat) (n : Int) (v : Value) (xs : List Int) (w : World) (hx : SlI lo hi w v xs) (hm : xs.length ≤ 1048576) :
    Calls Tryd.prog 88 #[.int .i64 n, v] w fun e w' => e = .returned (.bool (rowsB n xs)) ∧ Below w.heap.size w w' := by
  refine (spec_RowsValid lo hi n v xs w hx hm).mono ?_
  rintro e _ ⟨rfl, q, rfl⟩
  exact ⟨rfl, below_drewN (Below.refl _ _) _⟩
theorem modB_not {n p q : Int} {acts : List (List Int)} {k : Nat} (hk : k < acts.length) (h : rowsB n acts[k] = false) : modB ⟨n, p, q, acts⟩ = false := by
  rw [Bool.eq_false_iff]
  intro he
  simp only [modB, Bool.and_eq_true, List.all_eq_true] at he
  have := he.2 _ (List.getElem_mem hk)
  rw [h] at this
  cases this
theorem modB_no1 {n p q : Int} {acts : List (List Int)} (h : inB n 1 5 = false) : modB ⟨n, p, q, acts⟩ = false := by simp [modB, h]
theorem modB_rest {n p q : Int} {acts : List (List Int)} {m K : Nat} (hm : min (max n 0) 5 = (m : Int)) (hK : K = 2 ^ m) (hn : inB n 1 5 = true) (h : ∀ k (hk : k < acts.length), rowsB n acts[k] = true) :
    modB ⟨n, p, q, acts⟩ = (inB p 0 ((K : Int) - 1) && (inB q 0 ((K : Int) - 1) && decide (acts.length = 3))) := by
  have h1 : acts.all (rowsB n) = true := by
    rw [List.all_eq_true]
    intro x hx
    obtain ⟨k, hk, rfl⟩ := List.getElem_of_mem hx
    exact h k hk
  simp only [modB, hn, h1, Bool.true_and, Bool.and_true, isSet_in hm hK hn, Bool.and_assoc]

set_option maxRecDepth 100000 in
set_option maxHeartbeats 1600000 in
theorem spec_ModelValid (la ha : Nat) (M : Mo) (va : Value) (w : World) (hA : SlLL la ha w va M.acts) (hha : ha ≤ w.heap.size) (hm : M.acts.length ≤ 1048576) (hm2 : ∀ x ∈ M.acts, x.length ≤ 1048576) :
    Calls Tryd.prog 64 #[aggMo M va] w fun e w' => e = .returned (.bool (modB M)) ∧ Below w.heap.size w w' := by
  obtain ⟨sa, sc, rfl, _, hmc⟩ := hA.shape
  clear hmc
  obtain ⟨n, P, Q, acts⟩ := M
  simp only at hA hm hm2 ⊢
  obtain ⟨m, hmm, hm5⟩ : ∃ m : Nat, min (max n 0) 5 = (m : Int) ∧ m ≤ 5 := ⟨(min (max n 0) 5).toNat, by omega, by omega⟩
  obtain ⟨K, hK⟩ : ∃ K : Nat, K = 2 ^ m := ⟨_, rfl⟩
  have pw := pow_wrap20 (k := m) (by omega)
  rw [← hK] at pw
  have hK32 : K ≤ 32 := by rw [hK]; exact Nat.pow_le_pow_right (n := 2) (by omega) (show m ≤ 5 from hm5)
  have hK1 : 1 ≤ K := by rw [hK]; exact Nat.two_pow_pos m
  have HF : Hid (∀ k (hk : k < acts.length), rowsB n acts[k] = false → modB ⟨n, P, Q, acts⟩ = false) := Lib.hid fun k hk h => modB_not hk h
  have HN : Hid (inB n 1 5 = false → modB ⟨n, P, Q, acts⟩ = false) := Lib.hid modB_no1
  have HT : Hid (inB n 1 5 = true → (∀ k (hk : k < acts.length), rowsB n acts[k] = true) → modB ⟨n, P, Q, acts⟩ = (inB P 0 ((K : Int) - 1) && (inB Q 0 ((K : Int) - 1) && decide (acts.length = 3)))) := Lib.hid fun h k => modB_rest hmm hK h k
  obtain ⟨r, hr⟩ : ∃ r, r = modB ⟨n, P, Q, acts⟩ := ⟨_, rfl⟩
  rw [← hr] at HF HN HT ⊢
  clear hr hK
  obtain ⟨gM, hgM⟩ : ∃ gM, gM = w.heap.size := ⟨_, rfl⟩
  obtain ⟨w0, hw0⟩ : ∃ w0, w0 = w.alloc (.cells #[.int .i64 n, .int .i64 P, .int .i64 Q, .slice sa acts.length sc] 25) := ⟨_, rfl⟩
  obtain ⟨hb0, KB_, hs0⟩ := box_facts3 hw0
  have KB := Lib.hid KB_
  have HB := Lib.hid hb0
  have HA := Lib.hid (hA.below hb0 hha)
  have HM2 := Lib.hid hm2
  have HW := Lib.hid hw0
  rw [← hgM] at KB
  have HGM := Lib.hid hgM
  clear hA hm2 hb0 KB_ hw0 hgM
  have hgl := KB.out.lt
  have hha0 : ha ≤ w0.heap.size := by omega
  go_enter Tryd.func64, Tryd.ntmps64
  go_upto_region 1 with (rw [← HW.out])
  try rw [← HW.out]
  rw [← HGM.out]
  go_upto_region 2 with fail
  go_loopw [3] (fun i wr => ∃ k : Nat, k ≤ acts.length ∧ i = .int .i64 k ∧ Hid (∀ j (hj : j < acts.length), j < k → rowsB n acts[j] = true) ∧ Hid (Below w0.heap.size w0 wr)) (fun i _ => acts.length - (intOf i).toNat)
  case atStart => exact ⟨0, by omega, rfl, Lib.hid (by intro j hj h; omega), Lib.hid (Below.refl _ _)⟩
  case round =>
    obtain ⟨k, hk, rfl, HD, HQ⟩ := hrel
    have hsr := HQ.out.size
    have KR := Lib.hid (KB.out.below HQ.out hgl)
    have hgr := KR.out.lt
    have k0 := KR.out.cell 0
    have k1 := KR.out.cell 1
    have k2 := KR.out.cell 2
    have k3 := KR.out.cell 3
    by_cases hlt : k < acts.length
    · obtain ⟨b, off, u, rfl, _, hb1, hb2, hck, hrow⟩ := (HA.out.below HQ.out hha0).get k hlt
      have HR := Lib.hid hrow
      have hrl := HM2.out _ (List.getElem_mem hlt)
      obtain ⟨row, hrw⟩ : ∃ row, row = acts[k] := ⟨_, rfl⟩
      have HRW := Lib.hid hrw
      rw [← hrw] at HR hrl
      clear hrow hrw
      have i1 : (k : Int) < acts.length := by omega
      go_wp2
      go_region_held3 (fun w' => w'.cell? ⟨gM, 0, none⟩ = some (.int .i64 n) ∧ w'.cell? ⟨gM, 3, none⟩ = some (.slice (some ⟨b, off, none⟩) acts.length sc) ∧ w'.cell? ⟨b, off + k, none⟩ = some u) (first | with_reducible assumption | go_keep) (first
        | (go_at_call 88; refine (spec_RowsValidB la ha n u row _ (by first | exact HR.out | exact HR.out.below (Below.drew (Below.refl _ _)) (by omega)) hrl).mono ?_; rintro e4 w4 ⟨rfl, hb4⟩; (have k4_ := Blk.below KR.out.dr hb4 hgr); (have a0 := k4_.cell 0); (have a3 := k4_.cell 3); (have c4 := (hb4.cell (p := ⟨b, off + k, none⟩) hb2).trans hck); (have HQ4 := Lib.hid ((Below.drew HQ.out).trans (hb4.mono hsr))); clear k4_ hb4))
      cases hb : rowsB n row
      · have HE : Hid (r = false) := Lib.hid (HF.out k hlt (by rw [← HRW.out]; exact hb))
        clear hb
        go_wp2
        go_ret
        exact ⟨ret_bool HE.out.symm, HB.out.trans (HQ4.out.mono (by omega))⟩
      · have HE := Lib.hid hb
        clear hb
        go_wp2
        go_roundw
        case rel =>
          refine ⟨k + 1, by omega, by go_num, Lib.hid fun j hj hjk => ?_, HQ4⟩
          by_cases e : j < k
          · exact HD.out j hj e
          · obtain rfl : j = k := by omega
            rw [← HRW.out]
            exact HE.out
        case measure => simp [intOf]; omega
    · have HD2 : Hid (∀ j (hj : j < acts.length), rowsB n acts[j] = true) := Lib.hid fun j hj => HD.out j hj (by omega)
      go_wp2_with fail
      refine (l1In_any n 1 5 _).mono ?_
      rintro e _ ⟨rfl, rfl⟩
      cases hn : inB n 1 5
      · have HE : Hid (r = false) := Lib.hid (HN.out hn)
        clear hn
        go_wp2
        go_ret
        exact ⟨ret_bool HE.out.symm, HB.out.trans (HQ.out.mono (by omega))⟩
      · replace HT := Lib.hid (HT.out hn HD2.out)
        clear hn HN HF
        go_wp2_with fail
        refine (l1In_any P 0 _ _).mono ?_
        rintro e _ ⟨rfl, rfl⟩
        cases h1 : inB P 0 ((K : Int) - 1)
        · rw [h1, Bool.false_and] at HT
          clear h1
          go_wp2
          go_ret
          exact ⟨ret_bool HT.out.symm, HB.out.trans (HQ.out.mono (by omega))⟩
        · rw [h1, Bool.true_and] at HT
          clear h1
          go_wp2_with fail
          refine (l1In_any Q 0 _ _).mono ?_
          rintro e _ ⟨rfl, rfl⟩
          cases h2 : inB Q 0 ((K : Int) - 1)
          · rw [h2, Bool.false_and] at HT
            clear h2
            go_wp2
            go_ret
            exact ⟨ret_bool HT.out.symm, HB.out.trans (HQ.out.mono (by omega))⟩
          · rw [h2, Bool.true_and] at HT
            clear h2
            by_cases h3 : acts.length = 3
            · have HE : Hid (r = true) := Lib.hid (by rw [HT.out]; exact decide_eq_true h3)
              go_wp2
              go_ret
              exact ⟨ret_bool HE.out.symm, HB.out.trans (HQ.out.mono (by omega))⟩
            · have HE : Hid (r = false) := Lib.hid (by rw [HT.out]; exact decide_eq_false h3)
              have h4 : ((acts.length : Int) == 3) = false := by simp; omega
              go_wp2
              go_ret
              exact ⟨ret_bool HE.out.symm, HB.out.trans (HQ.out.mono (by omega))⟩
end Go.Proofs.YtoondakdjhhehaaDoor
