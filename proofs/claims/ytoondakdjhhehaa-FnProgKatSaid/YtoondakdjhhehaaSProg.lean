/-
  Texts of walks and plain lemmas for this seat; no condition.
-/
import Derived.Test.YtoondakdjhhehaaGZD
import Derived.Test.YtoondakdjhhehaaSMod
import Derived.Test.YtoondakdjhhehaaGD
import Derived.Test.YtoondakdjhhehaaGA
import Derived.Test.YtoondakdjhhehaaCIns
import Derived.RegionTactic
namespace Go.Proofs.Ytoondakdjhhehaa
open Go.RowKit

theorem spec_l8Takes (s : Int) (w : World) : Calls Try.prog 29 #[.int .i64 s] w fun e w' => e = .returned (.int .i64 (takesW s)) ∧ w = w' := by
  by_cases h1 : s = 15
  · subst h1
    go_enter Try.func29, Try.ntmps29
    go_wp2
    go_ret
    exact ⟨rfl, rfl⟩
  · have g1 : (s == 15) = false := by simpa using h1
    cases h2 : inB s 16 18
    · by_cases h3 : s = 30
      · subst h3
        go_enter Try.func29, Try.ntmps29
        go_wp2_with (go_at_call 30; refine (l1In_any _ _ _ _).mono ?_; rintro e w' ⟨rfl, rfl⟩)
        go_ret
        exact ⟨rfl, rfl⟩
      · have g3 : (s == 30) = false := by simpa using h3
        cases h4 : inB s 100 115
        · cases h5 : inB s 200 215
          · have HR : Hid (takesW s = -1) := Lib.hid (by
              simp only [inB, Bool.and_eq_false_iff, decide_eq_false_iff_not] at h2 h4 h5
              unfold takesW
              rw [if_neg (by omega), if_neg (by omega), if_neg (by omega)])
            go_enter Try.func29, Try.ntmps29
            go_wp2_with (go_at_call 30; refine (l1In_any _ _ _ _).mono ?_; rintro e w' ⟨rfl, rfl⟩)
            go_ret
            exact ⟨ret_int HR.out.symm, rfl⟩
          · have HR : Hid (takesW s = 1) := Lib.hid (by
              simp only [inB, Bool.and_eq_false_iff, Bool.and_eq_true, decide_eq_true_eq, decide_eq_false_iff_not] at h2 h4 h5
              unfold takesW
              rw [if_neg (by omega), if_neg (by omega), if_pos (by omega)])
            go_enter Try.func29, Try.ntmps29
            go_wp2_with (go_at_call 30; refine (l1In_any _ _ _ _).mono ?_; rintro e w' ⟨rfl, rfl⟩)
            go_ret
            exact ⟨ret_int HR.out.symm, rfl⟩
        · have HR : Hid (takesW s = 2) := Lib.hid (by
            simp only [inB, Bool.and_eq_false_iff, Bool.and_eq_true, decide_eq_true_eq, decide_eq_false_iff_not] at h2 h4
            unfold takesW
            rw [if_neg (by omega), if_pos (by omega)])
          go_enter Try.func29, Try.ntmps29
          go_wp2_with (go_at_call 30; refine (l1In_any _ _ _ _).mono ?_; rintro e w' ⟨rfl, rfl⟩)
          go_ret
          exact ⟨ret_int HR.out.symm, rfl⟩
    · have HR : Hid (takesW s = 0) := Lib.hid (by
        simp only [inB, Bool.and_eq_true, decide_eq_true_eq] at h2
        unfold takesW
        rw [if_pos (by omega)])
      go_enter Try.func29, Try.ntmps29
      go_wp2_with (go_at_call 30; refine (l1In_any _ _ _ _).mono ?_; rintro e w' ⟨rfl, rfl⟩)
      go_ret
      exact ⟨ret_int HR.out.symm, rfl⟩

theorem spec_ProgValid (lo hi : Nat) (v : Value) (xs : List Int) (w : World) (hx : SlI lo hi w v xs) (hm : xs.length ≤ 1048576) :
    Calls Try.prog 15 #[v] w fun e w' => e = .returned (.bool (progV xs)) ∧ w = w' := by
  obtain ⟨a, cap, rfl, hcap, hcm, hc⟩ := hx.open
  clear hx hcm hcap
  go_enter Try.func15, Try.ntmps15
  go_wp2
  go_loop [3, 4] (fun c i => ∃ (k : Nat) (d : Int), k ≤ xs.length ∧ i = .int .i64 k ∧ c = .int .i64 d ∧ 0 ≤ d ∧ d ≤ k ∧ Hid (pdep (xs.drop k) d = pdep xs 0)) (fun _ i => xs.length - (intOf i).toNat)
  case atStart => exact ⟨0, 0, by omega, rfl, rfl, by omega, by omega, Lib.hid rfl⟩
  case round =>
    obtain ⟨k, d, hk, rfl, rfl, hd0, hdk, HT⟩ := hrel
    by_cases hlt : k < xs.length
    · obtain ⟨b, off, rfl, _, _, _, hcell⟩ := hc k hlt
      clear hc
      obtain ⟨t0, t1⟩ := takesW_bd xs[k]
      by_cases hb1 : takesW xs[k] < 0
      · have HN := Lib.hid (pdep_bad xs k d hlt (.inl hb1))
        go_wp2_with (go_at_call 29; refine (spec_l8Takes _ _).mono ?_; rintro e w' ⟨rfl, rfl⟩)
        go_ret
        exact ⟨ret_bool (progV_none (by rw [← HT.out, HN.out])).symm, rfl⟩
      · by_cases hb3 : d < takesW xs[k]
        · have HN := Lib.hid (pdep_bad xs k d hlt (.inr hb3))
          go_wp2_with (go_at_call 29; refine (spec_l8Takes _ _).mono ?_; rintro e w' ⟨rfl, rfl⟩)
          go_ret
          exact ⟨ret_bool (progV_none (by rw [← HT.out, HN.out])).symm, rfl⟩
        · have HN := Lib.hid (pdep_good xs k d hlt (by omega))
          go_wp2_with (go_at_call 29; refine (spec_l8Takes _ _).mono ?_; rintro e w' ⟨rfl, rfl⟩)
          go_round
          case rel => exact ⟨k + 1, d + 1 - takesW xs[k], by omega, by go_num, by first | go_num | (congr 1; omega), by omega, by omega, Lib.hid (by rw [← HT.out, HN.out])⟩
          case measure => simp [intOf]; omega
    · have HN := Lib.hid (pdep_end xs k d (by omega))
      obtain rfl : k = xs.length := by omega
      have HK := Lib.hid (show progV xs = (inB xs.length 1 16 && d == 1) by
        simp only [progV, ← HT.out, HN.out, inB]
        rw [Bool.eq_iff_iff]
        simp
        omega)
      cases hb : inB xs.length 1 16
      · go_wp2_with (go_at_call 30; refine (l1In_any _ _ _ _).mono ?_; rintro e w' ⟨rfl, rfl⟩)
        go_ret
        exact ⟨ret_bool (by rw [HK.out, hb]; rfl), rfl⟩
      · go_wp2_with (go_at_call 30; refine (l1In_any _ _ _ _).mono ?_; rintro e w' ⟨rfl, rfl⟩)
        go_ret
        exact ⟨ret_bool (by rw [HK.out, hb]; rfl), rfl⟩

theorem spanW_neg (r : List Int) (n : Int) (h : n ≤ 0) : spanW r n = some 0 := by cases r <;> simp [spanW, h]
theorem halvesW {a b : PT} (hb : b.ok = true) : spanW (a.post ++ b.post).reverse 1 = some b.size := by
  rw [List.reverse_append, spanW_post b hb _ _ (by omega)]
  simp [spanW_zero]
set_option maxRecDepth 100000 in
set_option maxHeartbeats 1600000 in
theorem l8Halves_any (lo hi : Nat) (v : Value) (a b : PT) (s : Int) (w : World) (hx : SlI lo hi w v (a.post ++ b.post ++ [s])) (hm : (a.post ++ b.post ++ [s]).length ≤ 1048576) (hob : b.ok = true) :
    Calls Try.prog 34 #[v] w (RetH fun x y w' => (∃ m, w' = w.drewN m) ∧ SlI lo hi w x a.post ∧ SlI lo hi w y b.post) := by
  have HX := Lib.hid hx
  obtain ⟨xs, hxs⟩ : ∃ xs, xs = a.post ++ b.post ++ [s] := ⟨_, rfl⟩
  have hlen : xs.length = a.size + b.size + 1 := by rw [hxs]; simp only [List.length_append, PT.post_length, List.length_singleton]
  have ha1 := a.size_pos
  have hb1 := b.size_pos
  rw [← hxs] at hx hm HX
  have HS : Hid (spanW ((xs.take (a.size + b.size)).reverse) 1 = some b.size) := Lib.hid (by
    have : xs.take (a.size + b.size) = a.post ++ b.post := by
      rw [hxs, ← a.post_length, ← b.post_length, ← List.length_append]
      exact List.take_left
    rw [this]
    exact halvesW hob)
  obtain ⟨va, cap, rfl, hcap, hcm, hc⟩ := hx.open
  obtain ⟨bb, off, rfl⟩ := HX.out.notNil (by omega)
  have H1 := HX.out.sub 0 a.size (by omega) (by omega)
  have H2 := HX.out.sub a.size (a.size + b.size) (by omega) (by omega)
  have e1 : ((xs.drop 0).take (a.size - 0)) = a.post := by
    rw [List.drop_zero, Nat.sub_zero, hxs, ← a.post_length, List.append_assoc]
    exact List.take_left
  have e2 : ((xs.drop a.size).take (a.size + b.size - a.size)) = b.post := by
    have : xs.drop a.size = b.post ++ [s] := by
      rw [hxs, ← a.post_length, List.append_assoc]
      simp
    rw [this, show a.size + b.size - a.size = b.post.length by rw [b.post_length]; omega, List.take_left]
  rw [e1] at H1
  rw [e2] at H2
  have HH := Lib.hid (And.intro H1 H2)
  unfold maxLen at hcm
  have HXL := Lib.hid hlen
  rw [hlen] at hcap hm ⊢
  clear hx H1 H2 e1 e2 hxs hc
  obtain ⟨L, hL⟩ : ∃ L : Nat, L = a.size + b.size := ⟨_, rfl⟩
  have hl2 : xs.length = L + 1 := by omega
  have HL2 := Lib.hid hl2
  have e0 : a.size + b.size + 1 = L + 1 := by omega
  rw [← hL] at HS
  rw [e0] at hcap hm ⊢
  have hL1 : L ≤ a.size + b.size := by omega
  have hL2 : a.size + b.size ≤ L := by omega
  clear hlen hl2 e0 hL
  go_enter Try.func34, Try.ntmps34
  go_wp2
  go_loop [5, 6] (fun nv kv => ∃ (nd : Int) (k m : Nat), nv = .int .i64 nd ∧ kv = .int .i64 k ∧ k ≤ L ∧ k ≤ a.size + m ∧ a.size + m ≤ k ∧ -1 ≤ nd ∧ nd ≤ 1 + ((L : Int) - k) ∧ Hid (spanW ((xs.take k).reverse) nd = some m)) (fun _ kv => (intOf kv).toNat)
  case atStart => exact ⟨1, L, b.size, rfl, rfl, Nat.le_refl _, hL1, hL2, by omega, by omega, HS⟩
  case round =>
    obtain ⟨nd, k, m, rfl, rfl, hk, hkm, hkn, hn0, hn1, HI⟩ := hrel
    clear HS
    by_cases hpos : 0 < nd
    · have hk1 : 1 ≤ k := by
        rcases Nat.eq_zero_or_pos k with h | h
        · have := HI.out
          rw [h] at this
          simp [spanW] at this
          omega
        · exact h
      obtain ⟨k', rfl⟩ : ∃ k', k = k' + 1 := ⟨k - 1, by omega⟩
      have hk' : k' < xs.length := by have := HL2.out; omega
      obtain ⟨_, _, e, _, _, _, hcell⟩ := HX.out.get k' hk'
      injection e with e
      injection e with e1 e2
      subst e1 e2
      have HT : Hid (spanW ((xs.take k').reverse) (nd - 1 + takesW xs[k']) = some (m - 1) ∧ 1 ≤ m) := Lib.hid (by
        have h := HI.out
        rw [List.take_succ_eq_append_getElem hk', List.reverse_append, List.reverse_singleton, List.singleton_append, spanW_cons _ _ _ hpos, Option.map_eq_some_iff] at h
        obtain ⟨y, h1, h2⟩ := h
        exact ⟨by rw [h1, ← h2]; rfl, by omega⟩)
      obtain ⟨t0, t1⟩ := takesW_bd xs[k']
      have hm1 := HT.out.2
      have c1 : ((k' : Int) + 1 - 1) = k' := by omega
      have c2 : (k' : Int) < (L : Int) + 1 := by omega
      clear HI
      go_wp2_with (go_at_call 29; refine (spec_l8Takes _ _).mono ?_; rintro e w' ⟨rfl, rfl⟩)
      go_round
      case rel => exact ⟨nd - 1 + takesW xs[k'], k', m - 1, rfl, rfl, by omega, by omega, by omega, by omega, by omega, Lib.hid HT.out.1⟩
      case measure => simp [intOf]
    · have hm0 : m = 0 := by
        have := HI.out
        rw [spanW_neg _ _ (by omega)] at this
        injection this with this
        exact this.symm
      subst hm0
      obtain rfl : k = a.size := by omega
      have i1 : (a.size : Int) ≤ cap := by omega
      have i2 : (a.size : Int) ≤ L := by omega
      have i3 : (L : Int) ≤ cap := by omega
      have i4 : a.size ≤ cap := by omega
      have i5 : ((L : Int) - a.size).toNat = b.size := by omega
      have i6 : L - a.size = b.size := by omega
      clear HI hkm hkn
      go_wp2_with fail
      go_region
      go_wp2
      go_ret2
      have h1 : SlI lo hi w (.slice (some ⟨bb, off, none⟩) a.size cap) a.post := HH.out.1
      have h2 : SlI lo hi w (.slice (some ⟨bb, off + a.size, none⟩) b.size (cap - a.size)) b.post := by
        have h := HH.out.2
        rwa [Nat.add_sub_cancel_left] at h
      exact ⟨_, _, rfl, ⟨1, rfl⟩, h1, h2⟩
end Go.Proofs.Ytoondakdjhhehaa
