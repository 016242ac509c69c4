/-
  Texts of walks and plain lemmas for this seat; no condition.
-/
import Derived.Test.YtoondakdjhhehaaIDet
import Derived.Test.YtoondakdjhhehaaSPgK
import Derived.Test.YtoondakdjhhehaaDProgK
import Derived.Test.YtoondakdjhhehaaGZE
import Derived.Test.YtoondakdjhhehaaAliveT
import Derived.Test.YtoondakdjhhehaaSameI
namespace Go.Proofs.Ytoondakdjhhehaa
open Go.RowKit
set_option linter.unusedVariables false

/-- How many steps are actions. -/
def actsN (e : List Int) : Nat := (e.filter isActB).length
theorem actsN_snoc (e : List Int) (k : Nat) (h : k < e.length) : actsN (e.take (k + 1)) = actsN (e.take k) + if isActB e[k] then 1 else 0 := by
  rw [List.take_succ_eq_append_getElem h, actsN, List.filter_append, List.length_append, List.filter_cons]
  split <;> simp [actsN]
theorem actsN_le (e : List Int) : actsN e ≤ e.length := List.length_filter_le _ _
theorem actsN_app (a b : List Int) : actsN (a ++ b) = actsN a + actsN b := by simp [actsN]
theorem actsN_one {x : Int} (h : isActB x = false) : actsN [x] = 0 := by simp [actsN, h]
/-- As many actions as the program. -/
theorem acts_same : ∀ (T : PT), T.ok = true → actsN T.kat.post = actsN T.post
  | .one w, h => by simp [PT.kat, KT.post, PT.post]
  | .seq a b, h => by
    simp only [PT.ok, Bool.and_eq_true] at h
    simp only [PT.kat, KT.post, PT.post, actsN_app, acts_same a h.1, acts_same b h.2]
    rfl
  | .ite t a b, h => by
    simp only [PT.ok, Bool.and_eq_true, inB, decide_eq_true_eq] at h
    have h1 : isActB t = false := by simp [isActB]; omega
    have h2 : isActB (15 - t) = false := by simp [isActB]; omega
    have h3 : isActB (100 + t) = false := by simp [isActB]; omega
    simp only [PT.kat, KT.post, PT.post, actsN_app, acts_same a h.1.2, acts_same b h.2, actsN_one h1, actsN_one h2, actsN_one h3, actsN_one (show isActB (KT.op false) = false by decide), actsN_one (show isActB (KT.op true) = false by decide)]
    omega
  | .wh t a, h => by
    simp only [PT.ok, Bool.and_eq_true, inB, decide_eq_true_eq] at h
    have h1 : isActB t = false := by simp [isActB]; omega
    have h2 : isActB (15 - t) = false := by simp [isActB]; omega
    have h3 : isActB (200 + t) = false := by simp [isActB]; omega
    simp only [PT.kat, KT.post, PT.post, actsN_app, acts_same a h.2, actsN_one h1, actsN_one h2, actsN_one h3, actsN_one (show isActB (KT.op false) = false by decide), actsN_one (show isActB 21 = false by decide)]
    omega
set_option maxHeartbeats 1600000 in
theorem impl_KatActs (lo hi : Nat) (v : Value) (e : List Int) (w : World) (hx : SlI lo hi w v e) (hk : katV e = true) :
    Calls Try.prog 11 #[v] w fun r w' => r = .returned (.int .i64 (actsN e : Nat)) ∧ w = w' := by
  have hl := katV_len hk
  have HK := Lib.hid (impl_KatValid lo hi v e w hx (by omega))
  rw [hk] at HK
  obtain ⟨a, cap, rfl, hcap, hcm, hc⟩ := hx.open
  clear hx hcm hcap hk
  go_enter Try.func11, Try.ntmps11
  go_wp2_with (go_at_call 9; refine HK.out.mono ?_; rintro e_ _ ⟨rfl, rfl⟩)
  go_loop [3, 11] (fun nv iv => ∃ k : Nat, k ≤ e.length ∧ iv = .int .i64 k ∧ nv = .int .i64 (actsN (e.take k) : Nat)) (fun _ iv => e.length - (intOf iv).toNat)
  case atStart => exact ⟨0, by omega, rfl, by simp [actsN]⟩
  case round =>
    obtain ⟨k, hk, rfl, rfl⟩ := hrel
    have hle : actsN (e.take k) ≤ 40 := by have := actsN_le (e.take k); rw [List.length_take] at this; omega
    by_cases hlt : k < e.length
    · obtain ⟨b, off, rfl, _, _, _, hcell⟩ := hc k hlt
      clear hc
      have HS := Lib.hid (actsN_snoc e k hlt)
      obtain ⟨x, hx⟩ : ∃ x, x = e[k] := ⟨_, rfl⟩
      rw [← hx] at HS hcell
      obtain ⟨N, hN⟩ : ∃ N, N = actsN (e.take k) := ⟨_, rfl⟩
      rw [← hN] at HS hle ⊢
      clear hx hN
      have HI := Lib.hid (isAct_any x)
      cases hb : isActB x with
      | false =>
        rw [hb] at HI HS
        simp only [Bool.false_eq_true, if_false, Nat.add_zero] at HS
        clear hb
        go_wp2_with (go_at_call 25; refine (HI.out _).mono ?_; rintro e_ _ ⟨rfl, rfl⟩)
        go_round
        case rel => exact ⟨k + 1, by omega, by go_num, by rw [HS.out]⟩
        case measure => simp [intOf]; omega
      | true =>
        rw [hb] at HI HS
        simp only [if_true] at HS
        clear hb
        go_wp2_with (go_at_call 25; refine (HI.out _).mono ?_; rintro e_ _ ⟨rfl, rfl⟩)
        go_round
        case rel => exact ⟨k + 1, by omega, by go_num, by rw [HS.out]; push_cast; rfl⟩
        case measure => simp [intOf]; omega
    · obtain rfl : k = e.length := by omega
      go_wp2
      go_ret
      exact ⟨rfl, rfl⟩

set_option maxRecDepth 100000 in
set_option maxHeartbeats 3200000 in
theorem law_FnProgKat (v : Value) (bs : List Int) (w : World) (hx : SlB 0 w.heap.size w v bs) :
    Calls Try.prog 3 #[v] w fun e w' => e = .returned (.bool true) ∧ Below w.heap.size w w' := by
  have HX := Lib.hid hx
  obtain ⟨⟨a, cap, rfl, hcap, hcm, _⟩, _⟩ := hx
  unfold maxLen at hcm
  by_cases hm : bs.length ≤ 1048576
  · go_enter Try.func3, Try.ntmps3
    go_wp2_with fail
    refine (DrawProgKat_any _ bs _ HX.out).mono ?_
    rintro e w1 ⟨_, rfl, ps, hoc, hcl, hb⟩
    have hs1 := hb.size
    have HB := Lib.hid hb
    have HP := Lib.hid hoc.sl
    obtain ⟨ca, cc, rfl, _, _⟩ := hoc.sl.shape
    clear hoc hb HX
    go_wp2_with fail
    refine (impl_ProgKat _ _ _ ps w1 HP.out (Nat.le_refl _) (by omega)).mono ?_
    rintro e w2 h2
    have HSP := Lib.hid fun (w' : World) (h : SlI w.heap.size w1.heap.size w' (.slice ca ps.length cc) ps) (hh : w1.heap.size ≤ w'.heap.size) => spec_ProgKat _ _ _ ps w' h hh (by omega)
    cases hk : progK ps with
    | none =>
      obtain ⟨u, b, rfl, h4, h5, h6⟩ := h2
      rw [hk] at h4 h5
      subst h4
      have hs2 := h6.size
      obtain ⟨xa, xc, rfl, _, _⟩ := h5.sl.shape
      replace HB := Lib.hid (HB.out.trans (h6.mono hs1))
      have HSC := Lib.hid (HSP.out w2 (HP.out.below h6 (Nat.le_refl _)) hs2)
      have HO2 := Lib.hid h5.sl
      rw [hk] at HSC
      clear h5 h6 HSP
      go_wp2_with fail
      refine HSC.out.mono ?_
      rintro e w3 h3
      obtain ⟨u3, b3, rfl, rfl, h5, h6⟩ := h3
      have hs3 := h6.size
      obtain ⟨ya, yc, rfl, _, _⟩ := h5.sl.shape
      replace HB := Lib.hid (HB.out.trans (h6.mono (by omega)))
      have HSA := Lib.hid (sameInts_same _ _ _ _ _ _ [] w3 (HO2.out.below h6 (Nat.le_refl _)) h5.sl (by simp))
      clear h5 h6 HSC HO2
      go_wp2_with (first | (go_at_call 7; refine HSA.out.mono ?_; rintro e_ w_ ⟨rfl, hb_⟩; replace HB := Lib.hid (HB.out.trans (hb_.mono (by omega))); clear hb_) | (go_at_call 8; refine (alive_any _).mono ?_; rintro e_ _ ⟨rfl, rfl⟩))
      go_ret
      exact ⟨rfl, HB.out⟩
    | some e =>
      obtain ⟨T, t1, t2, t3, t4, t5, t6, t7, t8⟩ := progK_open hk
      obtain ⟨xa, xc, rfl, ho2, hb2⟩ := h2.some hk
      have hs2 := hb2.size
      replace HB := Lib.hid (HB.out.trans (hb2.mono hs1))
      replace HP := Lib.hid (HP.out.below hb2 (Nat.le_refl _))
      have HSC := Lib.hid (HSP.out w2 HP.out hs2)
      have HO2 := Lib.hid ho2.sl
      have HKL := Lib.hid (katV_len t7)
      have HKK := Lib.hid hk
      have HT := Lib.hid (And.intro t1 (And.intro t2 (And.intro t4 (And.intro t5 t7))))
      clear ho2 hb2 HSP h2 hk t1 t2 t3 t4 t5 t6 t7 t8
      go_wp2_with fail
      refine HSC.out.mono ?_
      rintro e3 w3 h3
      obtain ⟨ya, yc, rfl, ho3, hb3⟩ := h3.some HKK.out
      have hs3 := hb3.size
      replace HB := Lib.hid (HB.out.trans (hb3.mono (by omega)))
      replace HP := Lib.hid (HP.out.below hb3 (by omega))
      replace HO2 := Lib.hid (HO2.out.below hb3 (Nat.le_refl _))
      have HSA := Lib.hid (sameInts_same _ _ _ _ _ _ e w3 HO2.out ho3.sl (by have := HKL.out; omega))
      clear ho3 hb3 HSC h3
      have hee : ((true : Bool) != true) = false := rfl
      go_wp2_with fail
      refine HSA.out.mono ?_
      rintro e4 w4 ⟨rfl, hb4⟩
      have hs4 := hb4.size
      replace HB := Lib.hid (HB.out.trans (hb4.mono (by omega)))
      replace HP := Lib.hid (HP.out.below hb4 (by omega))
      replace HO2 := Lib.hid (HO2.out.below hb4 (by omega))
      clear hb4 HSA
      go_wp2
      go_loop [8, 9] (fun nv iv => ∃ k : Nat, k ≤ ps.length ∧ iv = .int .i64 k ∧ nv = .int .i64 (actsN (ps.take k) : Nat)) (fun _ iv => ps.length - (intOf iv).toNat)
      case atStart => exact ⟨0, by omega, rfl, by simp [actsN]⟩
      case round =>
        obtain ⟨k, hk', rfl, rfl⟩ := hrel
        have hle : actsN (ps.take k) ≤ 60 := by have := actsN_le (ps.take k); rw [List.length_take] at this; omega
        by_cases hlt : k < ps.length
        · obtain ⟨b, off, rfl, _, _, _, hcell⟩ := HP.out.get k hlt
          have HS := Lib.hid (actsN_snoc ps k hlt)
          obtain ⟨x, hx⟩ : ∃ x, x = ps[k] := ⟨_, rfl⟩
          rw [← hx] at HS hcell
          obtain ⟨N, hN⟩ : ∃ N, N = actsN (ps.take k) := ⟨_, rfl⟩
          rw [← hN] at HS hle ⊢
          clear hx hN
          have hc3 : x < 16 ∨ 18 < x ∨ (16 ≤ x ∧ x ≤ 18) := by omega
          rcases hc3 with h1 | h1 | ⟨h1, h2⟩
          · have HN : Hid (actsN (ps.take (k + 1)) = N) := Lib.hid (by rw [HS.out, show isActB x = false by simp [isActB]; omega]; simp)
            go_wp2
            go_round
            case rel => exact ⟨k + 1, by omega, by go_num, by rw [HN.out]⟩
            case measure => simp [intOf]; omega
          · have HN : Hid (actsN (ps.take (k + 1)) = N) := Lib.hid (by rw [HS.out, show isActB x = false by simp [isActB]; omega]; simp)
            have h16 : 16 ≤ x := by omega
            go_wp2
            go_round
            case rel => exact ⟨k + 1, by omega, by go_num, by rw [HN.out]⟩
            case measure => simp [intOf]; omega
          · have HN : Hid (actsN (ps.take (k + 1)) = N + 1) := Lib.hid (by rw [HS.out, show isActB x = true by simp [isActB]; omega]; simp)
            go_wp2
            go_round
            case rel => exact ⟨k + 1, by omega, by go_num, by rw [HN.out]; push_cast; rfl⟩
            case measure => simp [intOf]; omega
        · obtain rfl : k = ps.length := by omega
          obtain ⟨t1, t2, t4, t5, t7⟩ := HT.out
          have HAC : Hid (actsN e = actsN (ps.take ps.length)) := Lib.hid (by rw [List.take_length, t2, t5, acts_same T t1])
          have HKV := Lib.hid (impl_KatValid _ _ _ e w4 HO2.out (by have := HKL.out; omega))
          rw [t7] at HKV
          have HDT := Lib.hid (det_program _ _ _ T w4 (by rw [← t5]; exact HO2.out) (by omega) t1 t4)
          have HKA := Lib.hid fun (w' : World) (hb : Below w4.heap.size w4 w') => impl_KatActs _ _ _ e w' (HO2.out.below hb (by omega)) t7
          obtain ⟨N, hN⟩ : ∃ N, N = actsN (ps.take ps.length) := ⟨_, rfl⟩
          rw [← hN] at HAC ⊢
          rw [HAC.out] at HKA
          have hNN : ((N : Int) == (N : Int)) = true := by simp
          clear hN t2 t4 t5 t7 t1 hle
          go_wp2_with (go_at_call 9; refine HKV.out.mono ?_; rintro e_ _ ⟨rfl, rfl⟩)
          refine HDT.out.mono ?_
          rintro e5 w5 ⟨rfl, hb5⟩
          have HB5 := Lib.hid (HB.out.trans (hb5.mono (by omega)))
          have HKC := Lib.hid (HKA.out w5 hb5)
          clear hb5 HDT
          go_wp2_with (go_at_call 11; refine HKC.out.mono ?_; rintro e_ _ ⟨rfl, rfl⟩)
          go_ret
          exact ⟨rfl, HB5.out⟩
  · go_enter Try.func3, Try.ntmps3
    go_wp2
    go_ret
    exact ⟨rfl, Below.refl _ _⟩
end Go.Proofs.Ytoondakdjhhehaa
