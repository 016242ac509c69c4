/-
  Texts of walks and plain lemmas for this seat; no condition.
-/
import Derived.Test.YtacgefknhncgfaaDoorKTot
import Derived.Test.YtacgefknhncgfaaDoorEnv
import Derived.Deep.QuietTactic
import Derived.BigQuiet
import Derived.Lib.FrozenHead2
import Derived.Lib.IndexLaws
namespace Go.Proofs.YtacgefknhncgfaaDoor
open Go.RowKit
set_option linter.unusedVariables false

theorem KR.stepN {g : Nat} {w : World} {txt s : List UInt8} (h : KR g w txt s) (W : Nat) (hW : W ≤ s.length) (m : Nat) : KR g ((w.drewN m).setCell ⟨g, 1, none⟩ (.int .i64 (((txt.length - s.length : Nat) : Int) + (W : Int)))) txt (s.drop W) := by
  obtain ⟨h1, h2, h3, h4⟩ := h
  have e1 : txt.length - (s.drop W).length = txt.length - s.length + W := by rw [List.length_drop]; omega
  refine ⟨?_, ?_, by rw [List.length_drop]; omega, h4⟩
  · have h' : (w.drewN m).heap[g]? = _ := h1
    show ((w.drewN m).setCell ⟨g, 1, none⟩ _).heap[g]? = _
    simp only [World.setCell, Array.getElem?_modify, h', if_true]
    rw [e1]
    simp
  · rw [e1, ← List.drop_drop, ← h2]
theorem ext0 (l : List UInt8) (k : Nat) : ByteArray.extract ⟨l.toArray⟩ 0 k = ⟨(l.take k).toArray⟩ := by
  apply ByteArray.ext
  simp [ByteArray.data_extract]
theorem leaf_word {s : List UInt8} {W : Nat} (h : leafW s = W) : leafF s = (wordF (s.take W)).map fun n => ([n], s.drop W) := by rw [leafF, h]
theorem word_letter {d : UInt8} (h1 : 97 ≤ d.toNat) (h2 : d.toNat ≤ 99) : wordF [d] = some (16 + ((d.toNat : Int) - 97)) := by
  simp only [wordF]
  rw [if_pos ⟨h1, h2⟩]
theorem word_test {x : List UInt8} (h : ∀ d, x = [d] → ¬ (97 ≤ d.toNat ∧ d.toNat ≤ 99)) : wordF x = (readT x).map fun t => ((t : Nat) : Int) := by
  unfold wordF
  split
  · rename_i d
    rw [if_neg (h d rfl)]
  · rfl
theorem pre_yes (c : UInt8) (t : List UInt8) : Lib.hasPrefix (ByteArray.mk (c :: t).toArray).data.toList (ByteArray.mk #[c]).data.toList = true := by
  show List.isPrefixOf [c] (c :: t) = true
  simp [List.isPrefixOf]
theorem idx_leaf {c : UInt8} {t : List UInt8} (hc : c.toNat = 91) : ∃ W : Nat, W ≤ (c :: t).length ∧ leafW (c :: t) = W ∧ Lib.indexByte (c :: t) 93 = (W : Int) - 1 := by
  have hl : leafW (c :: t) = match (c :: t).findIdx? (· == 93) with | some i => i + 1 | none => 0 := by
    simp only [leafW]
    rw [if_neg (by omega), if_pos hc]
    cases (c :: t).findIdx? (· == 93) <;> rfl
  generalize hs : c :: t = s at *
  cases hf : s.findIdx? (· == 93) with
  | none =>
    rw [hf] at hl
    refine ⟨0, by omega, hl, ?_⟩
    have hno : ∀ j : Nat, s[j]? ≠ some (93 : UInt8) := fun j he => by
      rw [List.findIdx?_eq_none_iff] at hf
      have := hf 93 (List.mem_of_getElem? he)
      simp at this
    have hge := Lib.indexByte_ge s 93
    rcases Int.lt_or_le (Lib.indexByte s 93) 0 with h | h
    · omega
    · obtain ⟨o, ho⟩ : ∃ o : Nat, Lib.indexByte s 93 = o := ⟨(Lib.indexByte s 93).toNat, by omega⟩
      exact absurd (Lib.indexByte_some ho).1 (hno o)
  | some i =>
    rw [hf] at hl
    rw [List.findIdx?_eq_some_iff_getElem] at hf
    obtain ⟨hi, h1, h2⟩ := hf
    have e93 : s[i]? = some (93 : UInt8) := by rw [List.getElem?_eq_getElem hi]; congr 1; simpa using h1
    refine ⟨i + 1, by omega, hl, ?_⟩
    have hge := Lib.indexByte_ge s 93
    rcases Int.lt_or_le (Lib.indexByte s 93) 0 with h | h
    · exact absurd e93 (Lib.indexByte_none (by omega) i)
    · obtain ⟨o, ho⟩ : ∃ o : Nat, Lib.indexByte s 93 = o := ⟨(Lib.indexByte s 93).toNat, by omega⟩
      obtain ⟨g1, g2⟩ := Lib.indexByte_some ho
      rcases Nat.lt_trichotomy o i with hk | hk | hk
      · have hol : o < s.length := by omega
        have := h2 o hk
        rw [List.getElem?_eq_getElem hol] at g1
        injection g1 with g1
        simp [g1] at this
      · omega
      · exact absurd e93 (g2 i hk)

set_option maxRecDepth 100000 in
set_option maxHeartbeats 6400000 in
theorem single_tot (sum : PR) (n : Nat) (hsum : Tot 16 sum n) : Tot 47 (singleF sum) (n + 1) := by
  intro B g w txt s hk hn hB hM
  have HM := Lib.hid hM
  have HK := Lib.hid hk
  have hg := hk.lt
  cases s with
  | nil =>
    clear hsum hM hk
    go_enter Tryd.func47, Tryd.ntmps47
    go_wp2_with fail
    refine (take_any g _ txt [] 40 HK.out).mono ?_
    rintro e1 w1 ⟨b, rfl, rfl, hk, ho⟩
    rw [show isHead 40 [] = false from rfl] at hk ⊢
    replace HK := Lib.hid (show KR g w1 txt [] from hk)
    have HO := Lib.hid ho
    clear hk ho
    obtain ⟨k1, k2, k3, k4⟩ := HK.out
    have hex := extN txt txt.length
    rw [List.drop_length] at hex
    have c0 : w1.cell? ⟨g, 0, none⟩ = some (.string ⟨txt.toArray⟩) := by rw [Lib.cell_of_heap k1]; rfl
    have c1 : w1.cell? ⟨g, 1, none⟩ = some (.int .i64 (txt.length : Int)) := by rw [Lib.cell_of_heap k1]; rfl
    clear k1 k2 k3
    go_wp2_with fail
    go_quiet (fail)
    go_wp2_with fail
    refine (Tryd.strings_HasPrefix _ _ _).mono ?_
    rintro e1 w2 ⟨rfl, rfl⟩
    have P1 : Lib.hasPrefix ([] : List UInt8) [33] = false := rfl
    have P2 : Lib.hasPrefix ([] : List UInt8) [91] = false := rfl
    rw [show Lib.hasPrefix ByteArray.empty.data.toList (ByteArray.mk #[33]).data.toList = false from rfl]
    go_wp2_with fail
    refine (Tryd.strings_HasPrefix _ _ _).mono ?_
    rintro e1 w2 ⟨rfl, rfl⟩
    rw [show Lib.hasPrefix ByteArray.empty.data.toList (ByteArray.mk #[91]).data.toList = false from rfl]
    go_wp2
    exact ⟨rfl, .inr ⟨rfl, rfl, HO.out.trans (Outside.drawn _ _ _ _)⟩⟩
  | cons c t =>
    have hnt : t.length < n := by simpa using hn
    have HS := Lib.hid hsum
    clear hsum hM hk hn
    by_cases hc : c.toNat = 40
    · have q1 : isHead 40 (c :: t) = true := by simp [isHead]; omega
      have HSF := Lib.hid (show singleF sum (c :: t) = match sum t with
        | some (e, d :: r2) => if d.toNat = 41 then some (e, r2) else none
        | _ => none by
        simp only [singleF]
        rw [if_pos hc]
        cases sum t with
        | none => rfl
        | some x =>
          obtain ⟨e, r⟩ := x
          cases r <;> rfl)
      clear hc
      go_enter Tryd.func47, Tryd.ntmps47
      go_wp2_with fail
      refine (take_any g _ txt (c :: t) 40 HK.out).mono ?_
      rintro e1 w1 ⟨b, rfl, rfl, hk, ho⟩
      rw [q1] at hk ⊢
      replace HK := Lib.hid (show KR g w1 txt t from hk)
      have HO := Lib.hid ho
      replace HM := Lib.hid (HM.out.outside ho hB)
      clear hk ho
      go_wp2_with fail
      refine (HS.out B g _ txt t HK.out hnt hB HM.out).mono ?_
      rintro e1 w2 (⟨e, r, hp2, v2, rfl, hown, hk, ho⟩ | ⟨hp2, rfl, ho⟩)
      rotate_left
      · exact ⟨rfl, .inr ⟨by rw [HSF.out, hp2], rfl, HO.out.trans ho⟩⟩
      have HP2 := Lib.hid hp2
      replace HK := Lib.hid hk
      have HV := Lib.hid hown
      have hs1 := HO.out.size
      replace HO := Lib.hid (HO.out.trans ho)
      clear hk ho hown hp2
      obtain ⟨ra, rc, rfl, _⟩ := Own.open HV.out
      cases q2 : isHead 41 r
      · have HNO := Lib.hid (show singleF sum (c :: t) = none by
          rw [HSF.out, HP2.out]
          cases r with
          | nil => rfl
          | cons d r2 =>
            simp only [isHead, beq_eq_false_iff_ne, ne_eq] at q2
            show (if d.toNat = 41 then _ else _) = _
            rw [if_neg (by omega)])
        go_wp2_with fail
        refine (take_any g _ txt r 41 HK.out).mono ?_
        rintro e1 w3 ⟨b, rfl, rfl, hk, ho⟩
        rw [q2]
        replace HO := Lib.hid (HO.out.trans ho)
        clear hk ho
        go_wp2
        exact ⟨rfl, .inr ⟨HNO.out, rfl, HO.out⟩⟩
      · have HYES := Lib.hid (show singleF sum (c :: t) = some (e, r.tail) by
          rw [HSF.out, HP2.out]
          cases r with
          | nil => cases q2
          | cons d r2 =>
            simp only [isHead, beq_iff_eq] at q2
            show (if d.toNat = 41 then _ else _) = _
            rw [if_pos (by omega)]
            rfl)
        go_wp2_with fail
        refine (take_any g _ txt r 41 HK.out).mono ?_
        rintro e1 w3 ⟨b, rfl, rfl, hk, ho⟩
        rw [q2] at hk ⊢
        replace HV := Lib.hid ((HV.out.outside ho (.inr (by omega))).wide2' ho.size)
        replace HK := Lib.hid (show KR g w3 txt r.tail from hk)
        replace HO := Lib.hid (HO.out.trans ho)
        clear hk ho
        go_wp2
        go_ret
        exact .inl ⟨e, r.tail, HYES.out, RetV.mk _ rfl ⟨HV.out.wide2 hs1 (Nat.le_refl _), HK.out, HO.out⟩⟩
    · have q1 : isHead 40 (c :: t) = false := by simp [isHead]; omega
      have HSF := Lib.hid (show singleF sum (c :: t) = leafF (c :: t) by
        simp only [singleF]
        rw [if_neg hc])
      clear hc
      go_enter Tryd.func47, Tryd.ntmps47
      go_wp2_with fail
      refine (take_any g _ txt (c :: t) 40 HK.out).mono ?_
      rintro e1 w1 ⟨b, rfl, rfl, hk, ho⟩
      rw [q1] at hk ⊢
      replace HK := Lib.hid (show KR g w1 txt (c :: t) from hk)
      have HO := Lib.hid ho
      replace HM := Lib.hid (HM.out.outside ho hB)
      have hs1 := ho.size
      clear hk ho q1
      obtain ⟨k1, k2, k3, k4⟩ := HK.out
      obtain ⟨m, hm⟩ : ∃ m, m = txt.length - (c :: t).length := ⟨_, rfl⟩
      have hex := extN txt m
      rw [hm, ← k2, ← hm] at hex
      have c0 : w1.cell? ⟨g, 0, none⟩ = some (.string ⟨txt.toArray⟩) := by rw [Lib.cell_of_heap k1]; rfl
      have c1 : w1.cell? ⟨g, 1, none⟩ = some (.int .i64 ((txt.length - (c :: t).length : Nat) : Int)) := by rw [Lib.cell_of_heap k1]; rfl
      have f1 : w1.frozen? ⟨g, 1, none⟩ = false := Lib.frozen_of_heap k1 1
      rw [← hm] at c1
      have HMM := Lib.hid hm
      have hm1 : m ≤ txt.length := by omega
      have hm2 : (m : Int) ≤ txt.length := by omega
      have hslen : (c :: t).length ≤ 199 := Nat.le_trans k3 k4
      clear k1 k2 k3 hm
      go_wp2_with fail
      go_quiet (fail)
      go_wp2_with fail
      refine (Tryd.strings_HasPrefix _ _ _).mono ?_
      rintro e1 w2 ⟨rfl, rfl⟩
      by_cases h33 : c.toNat = 33
      · obtain rfl : c = 33 := by
          have : c.toNat = (33 : UInt8).toNat := h33
          exact UInt8.toNat_inj.1 this
        rw [pre_yes]
        clear h33
        cases t with
        | nil =>
          have hW : leafW [(33 : UInt8)] = 1 := by decide
          have hWs : 1 ≤ ([(33 : UInt8)] : List UInt8).length := by decide
          have hmn : min (2 : Int) 1 = 1 := by decide
          have HLF := Lib.hid (leaf_word hW)
          clear hW
          have j1 : (1 : Int) ≤ (((33 : UInt8) :: []).length : Int) := by omega
          have j2 : (0 : Int) ≤ (1 : Int) := by omega
          have hexW := ext0 ((33 : UInt8) :: []) 1
          obtain ⟨x, hx⟩ : ∃ x, x = ((33 : UInt8) :: []).take 1 := ⟨_, rfl⟩
          have hstep : ∀ q, KR g ((w1.drewN q).setCell ⟨g, 1, none⟩ (.int .i64 ((m : Int) + (1 : Int)))) txt (((33 : UInt8) :: []).drop 1) := fun q => by rw [HMM.out]; exact HK.out.stepN 1 hWs q
          have hout : ∀ q, Outside g (g + 1) w ((w1.drewN q).setCell ⟨g, 1, none⟩ (.int .i64 ((m : Int) + (1 : Int)))) := fun q => (HO.out.trans (Outside.drawn _ _ _ q)).setCell (p := ⟨g, 1, none⟩) (Nat.le_refl _) (Nat.lt_succ_self _) _
          have HST := Lib.hid (And.intro hstep hout)
          have hxl : x.length ≤ 199 := by rw [hx, List.length_take]; omega
          rw [← hx] at hexW HLF
          have HX := Lib.hid hx
          clear hstep hout hx
          obtain ⟨wx, hwx⟩ : ∃ wx, wx = ((w1.drewN nq).setCell ⟨g, 1, none⟩ (.int .i64 ((m : Int) + (1 : Int)))) := ⟨_, rfl⟩
          have HWX := Lib.hid hwx
          have hws : wx.heap.size = w1.heap.size := by rw [hwx]; simp [World.setCell]
          have HWS := Lib.hid hws
          clear hws
          have HKX := Lib.hid (HST.out.1 nq)
          have HOX := Lib.hid (HST.out.2 nq)
          have HMX := Lib.hid (HM.out.outside ((Outside.drawn g (g + 1) w1 nq).setCell (p := ⟨g, 1, none⟩) (Nat.le_refl _) (Nat.lt_succ_self _) (.int .i64 ((m : Int) + (1 : Int)))) hB)
          rw [← hwx] at HKX HOX HMX
          have hs2 := HOX.out.size
          clear hwx HST
          by_cases hx1 : x.length = 1
          · obtain ⟨d, rfl⟩ := List.length_eq_one_iff.1 hx1
            clear hx1
            have hget : ∀ hh : 0 < (ByteArray.mk #[d]).size, (ByteArray.mk #[d])[0]'hh = d := fun _ => rfl
            have hcmp : (97 ≤ d.toNat ∧ d.toNat ≤ 99) ∨ ((97 ≤ d.toNat) ∧ ¬ (d.toNat ≤ 99) ∨ ¬ (97 ≤ d.toNat)) := by omega
            rcases hcmp with ⟨h1, h2⟩ | h12
            · have i97 : (97 : Int) ≤ d.toNat := by omega
              have i99 : (d.toNat : Int) ≤ 99 := by omega
              have HRES := Lib.hid (show singleF sum ((33 : UInt8) :: []) = some ([16 + ((d.toNat : Int) - 97)], ((33 : UInt8) :: []).drop 1) by rw [HSF.out, HLF.out, word_letter h1 h2]; rfl)
              go_wp2_with fail
              simp only [← HWX.out]
              go_ret
              have h3 := one_own (16 + ((d.toNat : Int) - 97)) wx
              rw [HWS.out] at h3
              exact .inl ⟨_, _, HRES.out, RetV.mk _ rfl ⟨h3.wide2 hs1 (Nat.le_refl _), HKX.out.below ((Below.refl _ _).alloc (Nat.le_refl _) _) (by omega), HOX.out.below ((Below.refl _ _).alloc (Nat.le_refl _) _) (by omega)⟩⟩
            · have HWT := Lib.hid (word_test (x := [d]) (by intro d' e; injection e with e _; subst e; omega))
              rcases h12 with ⟨h1, h2⟩ | h1
              · have i97 : (97 : Int) ≤ d.toNat := by omega
                have i99 : ¬ (d.toNat : Int) ≤ 99 := by omega
                go_wp2_with fail
                simp only [← HWX.out]
                refine (impl_ReadTest [d] _ rfl _ HMX.out.mapT).mono ?_
                rintro e1 w2 ⟨rfl, rfl⟩
                cases hrt : readT [d] with
                | some k =>
                  have HRES := Lib.hid (show singleF sum ((33 : UInt8) :: []) = some ([(k : Int)], ((33 : UInt8) :: []).drop 1) by rw [HSF.out, HLF.out, HWT.out, hrt]; rfl)
                  rw [show rdT (some k) = .tuple #[.int .i64 k, .bool true] from rfl]
                  clear hrt
                  go_wp2
                  go_ret
                  exact .inl ⟨_, _, HRES.out, RetV.mk _ rfl ⟨(one_own _ _).wide2 hs2 (Nat.le_refl _), HKX.out.below ((Below.refl _ _).alloc (Nat.le_refl _) _) (by omega), HOX.out.below ((Below.refl _ _).alloc (Nat.le_refl _) _) (by omega)⟩⟩
                | none =>
                  have HRES := Lib.hid (show singleF sum ((33 : UInt8) :: []) = none by rw [HSF.out, HLF.out, HWT.out, hrt]; rfl)
                  rw [show rdT none = .tuple #[.int .i64 (-1), .bool false] from rfl]
                  clear hrt
                  go_wp2
                  exact ⟨rfl, .inr ⟨HRES.out, rfl, HOX.out⟩⟩
              · have i97 : ¬ (97 : Int) ≤ d.toNat := by omega
                go_wp2_with fail
                simp only [← HWX.out]
                refine (impl_ReadTest [d] _ rfl _ HMX.out.mapT).mono ?_
                rintro e1 w2 ⟨rfl, rfl⟩
                cases hrt : readT [d] with
                | some k =>
                  have HRES := Lib.hid (show singleF sum ((33 : UInt8) :: []) = some ([(k : Int)], ((33 : UInt8) :: []).drop 1) by rw [HSF.out, HLF.out, HWT.out, hrt]; rfl)
                  rw [show rdT (some k) = .tuple #[.int .i64 k, .bool true] from rfl]
                  clear hrt
                  go_wp2
                  go_ret
                  exact .inl ⟨_, _, HRES.out, RetV.mk _ rfl ⟨(one_own _ _).wide2 hs2 (Nat.le_refl _), HKX.out.below ((Below.refl _ _).alloc (Nat.le_refl _) _) (by omega), HOX.out.below ((Below.refl _ _).alloc (Nat.le_refl _) _) (by omega)⟩⟩
                | none =>
                  have HRES := Lib.hid (show singleF sum ((33 : UInt8) :: []) = none by rw [HSF.out, HLF.out, HWT.out, hrt]; rfl)
                  rw [show rdT none = .tuple #[.int .i64 (-1), .bool false] from rfl]
                  clear hrt
                  go_wp2
                  exact ⟨rfl, .inr ⟨HRES.out, rfl, HOX.out⟩⟩
          · have hx1i : ((x.length : Int) == 1) = false := by simp; omega
            have HWT := Lib.hid (word_test (x := x) (by intro d' e; rw [e] at hx1; exact absurd rfl hx1))
            go_wp2_with fail
            simp only [← HWX.out]
            refine (impl_ReadTest x _ rfl _ HMX.out.mapT).mono ?_
            rintro e1 w2 ⟨rfl, rfl⟩
            cases hrt : readT x with
            | some k =>
              have HRES := Lib.hid (show singleF sum ((33 : UInt8) :: []) = some ([(k : Int)], ((33 : UInt8) :: []).drop 1) by rw [HSF.out, HLF.out, HWT.out, hrt]; rfl)
              rw [show rdT (some k) = .tuple #[.int .i64 k, .bool true] from rfl]
              clear hrt
              go_wp2
              go_ret
              exact .inl ⟨_, _, HRES.out, RetV.mk _ rfl ⟨(one_own _ _).wide2 hs2 (Nat.le_refl _), HKX.out.below ((Below.refl _ _).alloc (Nat.le_refl _) _) (by omega), HOX.out.below ((Below.refl _ _).alloc (Nat.le_refl _) _) (by omega)⟩⟩
            | none =>
              have HRES := Lib.hid (show singleF sum ((33 : UInt8) :: []) = none by rw [HSF.out, HLF.out, HWT.out, hrt]; rfl)
              rw [show rdT none = .tuple #[.int .i64 (-1), .bool false] from rfl]
              clear hrt
              go_wp2
              exact ⟨rfl, .inr ⟨HRES.out, rfl, HOX.out⟩⟩
        | cons u t =>
          have hW : leafW ((33 : UInt8) :: u :: t) = 2 := by
            show min 2 ((u :: t).length + 1) = 2
            simp
          have hWs : 2 ≤ ((33 : UInt8) :: u :: t).length := by simp
          have hmn : min (2 : Int) ((t.length : Int) + 1 + 1) = 2 := by omega
          have HLF := Lib.hid (leaf_word hW)
          clear hW
          have j1 : (2 : Int) ≤ (((33 : UInt8) :: u :: t).length : Int) := by omega
          have j2 : (0 : Int) ≤ (2 : Int) := by omega
          have hexW := ext0 ((33 : UInt8) :: u :: t) 2
          obtain ⟨x, hx⟩ : ∃ x, x = ((33 : UInt8) :: u :: t).take 2 := ⟨_, rfl⟩
          have hstep : ∀ q, KR g ((w1.drewN q).setCell ⟨g, 1, none⟩ (.int .i64 ((m : Int) + (2 : Int)))) txt (((33 : UInt8) :: u :: t).drop 2) := fun q => by rw [HMM.out]; exact HK.out.stepN 2 hWs q
          have hout : ∀ q, Outside g (g + 1) w ((w1.drewN q).setCell ⟨g, 1, none⟩ (.int .i64 ((m : Int) + (2 : Int)))) := fun q => (HO.out.trans (Outside.drawn _ _ _ q)).setCell (p := ⟨g, 1, none⟩) (Nat.le_refl _) (Nat.lt_succ_self _) _
          have HST := Lib.hid (And.intro hstep hout)
          have hxl : x.length ≤ 199 := by rw [hx, List.length_take]; omega
          rw [← hx] at hexW HLF
          have HX := Lib.hid hx
          clear hstep hout hx
          obtain ⟨wx, hwx⟩ : ∃ wx, wx = ((w1.drewN nq).setCell ⟨g, 1, none⟩ (.int .i64 ((m : Int) + (2 : Int)))) := ⟨_, rfl⟩
          have HWX := Lib.hid hwx
          have hws : wx.heap.size = w1.heap.size := by rw [hwx]; simp [World.setCell]
          have HWS := Lib.hid hws
          clear hws
          have HKX := Lib.hid (HST.out.1 nq)
          have HOX := Lib.hid (HST.out.2 nq)
          have HMX := Lib.hid (HM.out.outside ((Outside.drawn g (g + 1) w1 nq).setCell (p := ⟨g, 1, none⟩) (Nat.le_refl _) (Nat.lt_succ_self _) (.int .i64 ((m : Int) + (2 : Int)))) hB)
          rw [← hwx] at HKX HOX HMX
          have hs2 := HOX.out.size
          clear hwx HST
          by_cases hx1 : x.length = 1
          · obtain ⟨d, rfl⟩ := List.length_eq_one_iff.1 hx1
            clear hx1
            have hget : ∀ hh : 0 < (ByteArray.mk #[d]).size, (ByteArray.mk #[d])[0]'hh = d := fun _ => rfl
            have hcmp : (97 ≤ d.toNat ∧ d.toNat ≤ 99) ∨ ((97 ≤ d.toNat) ∧ ¬ (d.toNat ≤ 99) ∨ ¬ (97 ≤ d.toNat)) := by omega
            rcases hcmp with ⟨h1, h2⟩ | h12
            · have i97 : (97 : Int) ≤ d.toNat := by omega
              have i99 : (d.toNat : Int) ≤ 99 := by omega
              have HRES := Lib.hid (show singleF sum ((33 : UInt8) :: u :: t) = some ([16 + ((d.toNat : Int) - 97)], ((33 : UInt8) :: u :: t).drop 2) by rw [HSF.out, HLF.out, word_letter h1 h2]; rfl)
              go_wp2_with fail
              simp only [← HWX.out]
              go_ret
              have h3 := one_own (16 + ((d.toNat : Int) - 97)) wx
              rw [HWS.out] at h3
              exact .inl ⟨_, _, HRES.out, RetV.mk _ rfl ⟨h3.wide2 hs1 (Nat.le_refl _), HKX.out.below ((Below.refl _ _).alloc (Nat.le_refl _) _) (by omega), HOX.out.below ((Below.refl _ _).alloc (Nat.le_refl _) _) (by omega)⟩⟩
            · have HWT := Lib.hid (word_test (x := [d]) (by intro d' e; injection e with e _; subst e; omega))
              rcases h12 with ⟨h1, h2⟩ | h1
              · have i97 : (97 : Int) ≤ d.toNat := by omega
                have i99 : ¬ (d.toNat : Int) ≤ 99 := by omega
                go_wp2_with fail
                simp only [← HWX.out]
                refine (impl_ReadTest [d] _ rfl _ HMX.out.mapT).mono ?_
                rintro e1 w2 ⟨rfl, rfl⟩
                cases hrt : readT [d] with
                | some k =>
                  have HRES := Lib.hid (show singleF sum ((33 : UInt8) :: u :: t) = some ([(k : Int)], ((33 : UInt8) :: u :: t).drop 2) by rw [HSF.out, HLF.out, HWT.out, hrt]; rfl)
                  rw [show rdT (some k) = .tuple #[.int .i64 k, .bool true] from rfl]
                  clear hrt
                  go_wp2
                  go_ret
                  exact .inl ⟨_, _, HRES.out, RetV.mk _ rfl ⟨(one_own _ _).wide2 hs2 (Nat.le_refl _), HKX.out.below ((Below.refl _ _).alloc (Nat.le_refl _) _) (by omega), HOX.out.below ((Below.refl _ _).alloc (Nat.le_refl _) _) (by omega)⟩⟩
                | none =>
                  have HRES := Lib.hid (show singleF sum ((33 : UInt8) :: u :: t) = none by rw [HSF.out, HLF.out, HWT.out, hrt]; rfl)
                  rw [show rdT none = .tuple #[.int .i64 (-1), .bool false] from rfl]
                  clear hrt
                  go_wp2
                  exact ⟨rfl, .inr ⟨HRES.out, rfl, HOX.out⟩⟩
              · have i97 : ¬ (97 : Int) ≤ d.toNat := by omega
                go_wp2_with fail
                simp only [← HWX.out]
                refine (impl_ReadTest [d] _ rfl _ HMX.out.mapT).mono ?_
                rintro e1 w2 ⟨rfl, rfl⟩
                cases hrt : readT [d] with
                | some k =>
                  have HRES := Lib.hid (show singleF sum ((33 : UInt8) :: u :: t) = some ([(k : Int)], ((33 : UInt8) :: u :: t).drop 2) by rw [HSF.out, HLF.out, HWT.out, hrt]; rfl)
                  rw [show rdT (some k) = .tuple #[.int .i64 k, .bool true] from rfl]
                  clear hrt
                  go_wp2
                  go_ret
                  exact .inl ⟨_, _, HRES.out, RetV.mk _ rfl ⟨(one_own _ _).wide2 hs2 (Nat.le_refl _), HKX.out.below ((Below.refl _ _).alloc (Nat.le_refl _) _) (by omega), HOX.out.below ((Below.refl _ _).alloc (Nat.le_refl _) _) (by omega)⟩⟩
                | none =>
                  have HRES := Lib.hid (show singleF sum ((33 : UInt8) :: u :: t) = none by rw [HSF.out, HLF.out, HWT.out, hrt]; rfl)
                  rw [show rdT none = .tuple #[.int .i64 (-1), .bool false] from rfl]
                  clear hrt
                  go_wp2
                  exact ⟨rfl, .inr ⟨HRES.out, rfl, HOX.out⟩⟩
          · have hx1i : ((x.length : Int) == 1) = false := by simp; omega
            have HWT := Lib.hid (word_test (x := x) (by intro d' e; rw [e] at hx1; exact absurd rfl hx1))
            go_wp2_with fail
            simp only [← HWX.out]
            refine (impl_ReadTest x _ rfl _ HMX.out.mapT).mono ?_
            rintro e1 w2 ⟨rfl, rfl⟩
            cases hrt : readT x with
            | some k =>
              have HRES := Lib.hid (show singleF sum ((33 : UInt8) :: u :: t) = some ([(k : Int)], ((33 : UInt8) :: u :: t).drop 2) by rw [HSF.out, HLF.out, HWT.out, hrt]; rfl)
              rw [show rdT (some k) = .tuple #[.int .i64 k, .bool true] from rfl]
              clear hrt
              go_wp2
              go_ret
              exact .inl ⟨_, _, HRES.out, RetV.mk _ rfl ⟨(one_own _ _).wide2 hs2 (Nat.le_refl _), HKX.out.below ((Below.refl _ _).alloc (Nat.le_refl _) _) (by omega), HOX.out.below ((Below.refl _ _).alloc (Nat.le_refl _) _) (by omega)⟩⟩
            | none =>
              have HRES := Lib.hid (show singleF sum ((33 : UInt8) :: u :: t) = none by rw [HSF.out, HLF.out, HWT.out, hrt]; rfl)
              rw [show rdT none = .tuple #[.int .i64 (-1), .bool false] from rfl]
              clear hrt
              go_wp2
              exact ⟨rfl, .inr ⟨HRES.out, rfl, HOX.out⟩⟩
      · rw [pre1 33 c t (by simpa using h33)]
        go_wp2_with fail
        refine (Tryd.strings_HasPrefix _ _ _).mono ?_
        rintro e1 w2 ⟨rfl, rfl⟩
        by_cases h91 : c.toNat = 91
        · obtain rfl : c = 91 := by
            have : c.toNat = (91 : UInt8).toNat := h91
            exact UInt8.toNat_inj.1 this
          rw [pre_yes]
          obtain ⟨W, hWs, hW, hidx⟩ := idx_leaf (t := t) h91
          have HLF := Lib.hid (leaf_word hW)
          have HIX := Lib.hid hidx
          clear hW h91 h33 hidx
          go_wp2_with fail
          refine (Tryd.strings_IndexByte _ _ _).mono ?_
          rintro e1 w2 ⟨rfl, rfl⟩
          rw [show Lib.indexByte (ByteArray.mk ((91 : UInt8) :: t).toArray).data.toList (Int.toNat 93).toUInt8 = (W : Int) - 1 from HIX.out]
          have hmn : IntKind.i64.wrap ((W : Int) - 1 + 1) = (W : Int) := by simp [IntKind.wrap, IntKind.bits, IntKind.signed]; omega
          have hmn2 : (W : Int) - 1 + 1 = (W : Int) := by omega
          have j1 : (W : Int) ≤ (((91 : UInt8) :: t).length : Int) := by omega
          have j2 : (0 : Int) ≤ (W : Int) := by omega
          have hexW := ext0 ((91 : UInt8) :: t) W
          obtain ⟨x, hx⟩ : ∃ x, x = ((91 : UInt8) :: t).take W := ⟨_, rfl⟩
          have hstep : ∀ q, KR g ((w1.drewN q).setCell ⟨g, 1, none⟩ (.int .i64 ((m : Int) + (W : Int)))) txt (((91 : UInt8) :: t).drop W) := fun q => by rw [HMM.out]; exact HK.out.stepN W hWs q
          have hout : ∀ q, Outside g (g + 1) w ((w1.drewN q).setCell ⟨g, 1, none⟩ (.int .i64 ((m : Int) + (W : Int)))) := fun q => (HO.out.trans (Outside.drawn _ _ _ q)).setCell (p := ⟨g, 1, none⟩) (Nat.le_refl _) (Nat.lt_succ_self _) _
          have HST := Lib.hid (And.intro hstep hout)
          have hxl : x.length ≤ 199 := by rw [hx, List.length_take]; omega
          rw [← hx] at hexW HLF
          have HX := Lib.hid hx
          clear hstep hout hx
          obtain ⟨wx, hwx⟩ : ∃ wx, wx = ((w1.drewN nq).setCell ⟨g, 1, none⟩ (.int .i64 ((m : Int) + (W : Int)))) := ⟨_, rfl⟩
          have HWX := Lib.hid hwx
          have hws : wx.heap.size = w1.heap.size := by rw [hwx]; simp [World.setCell]
          have HWS := Lib.hid hws
          clear hws
          have HKX := Lib.hid (HST.out.1 nq)
          have HOX := Lib.hid (HST.out.2 nq)
          have HMX := Lib.hid (HM.out.outside ((Outside.drawn g (g + 1) w1 nq).setCell (p := ⟨g, 1, none⟩) (Nat.le_refl _) (Nat.lt_succ_self _) (.int .i64 ((m : Int) + (W : Int)))) hB)
          rw [← hwx] at HKX HOX HMX
          have hs2 := HOX.out.size
          clear hwx HST
          by_cases hx1 : x.length = 1
          · obtain ⟨d, rfl⟩ := List.length_eq_one_iff.1 hx1
            clear hx1
            have hget : ∀ hh : 0 < (ByteArray.mk #[d]).size, (ByteArray.mk #[d])[0]'hh = d := fun _ => rfl
            have hcmp : (97 ≤ d.toNat ∧ d.toNat ≤ 99) ∨ ((97 ≤ d.toNat) ∧ ¬ (d.toNat ≤ 99) ∨ ¬ (97 ≤ d.toNat)) := by omega
            rcases hcmp with ⟨h1, h2⟩ | h12
            · have i97 : (97 : Int) ≤ d.toNat := by omega
              have i99 : (d.toNat : Int) ≤ 99 := by omega
              have HRES := Lib.hid (show singleF sum ((91 : UInt8) :: t) = some ([16 + ((d.toNat : Int) - 97)], ((91 : UInt8) :: t).drop W) by rw [HSF.out, HLF.out, word_letter h1 h2]; rfl)
              go_wp2_with fail
              simp only [← HWX.out]
              go_ret
              have h3 := one_own (16 + ((d.toNat : Int) - 97)) wx
              rw [HWS.out] at h3
              exact .inl ⟨_, _, HRES.out, RetV.mk _ rfl ⟨h3.wide2 hs1 (Nat.le_refl _), HKX.out.below ((Below.refl _ _).alloc (Nat.le_refl _) _) (by omega), HOX.out.below ((Below.refl _ _).alloc (Nat.le_refl _) _) (by omega)⟩⟩
            · have HWT := Lib.hid (word_test (x := [d]) (by intro d' e; injection e with e _; subst e; omega))
              rcases h12 with ⟨h1, h2⟩ | h1
              · have i97 : (97 : Int) ≤ d.toNat := by omega
                have i99 : ¬ (d.toNat : Int) ≤ 99 := by omega
                go_wp2_with fail
                simp only [← HWX.out]
                refine (impl_ReadTest [d] _ rfl _ HMX.out.mapT).mono ?_
                rintro e1 w2 ⟨rfl, rfl⟩
                cases hrt : readT [d] with
                | some k =>
                  have HRES := Lib.hid (show singleF sum ((91 : UInt8) :: t) = some ([(k : Int)], ((91 : UInt8) :: t).drop W) by rw [HSF.out, HLF.out, HWT.out, hrt]; rfl)
                  rw [show rdT (some k) = .tuple #[.int .i64 k, .bool true] from rfl]
                  clear hrt
                  go_wp2
                  go_ret
                  exact .inl ⟨_, _, HRES.out, RetV.mk _ rfl ⟨(one_own _ _).wide2 hs2 (Nat.le_refl _), HKX.out.below ((Below.refl _ _).alloc (Nat.le_refl _) _) (by omega), HOX.out.below ((Below.refl _ _).alloc (Nat.le_refl _) _) (by omega)⟩⟩
                | none =>
                  have HRES := Lib.hid (show singleF sum ((91 : UInt8) :: t) = none by rw [HSF.out, HLF.out, HWT.out, hrt]; rfl)
                  rw [show rdT none = .tuple #[.int .i64 (-1), .bool false] from rfl]
                  clear hrt
                  go_wp2
                  exact ⟨rfl, .inr ⟨HRES.out, rfl, HOX.out⟩⟩
              · have i97 : ¬ (97 : Int) ≤ d.toNat := by omega
                go_wp2_with fail
                simp only [← HWX.out]
                refine (impl_ReadTest [d] _ rfl _ HMX.out.mapT).mono ?_
                rintro e1 w2 ⟨rfl, rfl⟩
                cases hrt : readT [d] with
                | some k =>
                  have HRES := Lib.hid (show singleF sum ((91 : UInt8) :: t) = some ([(k : Int)], ((91 : UInt8) :: t).drop W) by rw [HSF.out, HLF.out, HWT.out, hrt]; rfl)
                  rw [show rdT (some k) = .tuple #[.int .i64 k, .bool true] from rfl]
                  clear hrt
                  go_wp2
                  go_ret
                  exact .inl ⟨_, _, HRES.out, RetV.mk _ rfl ⟨(one_own _ _).wide2 hs2 (Nat.le_refl _), HKX.out.below ((Below.refl _ _).alloc (Nat.le_refl _) _) (by omega), HOX.out.below ((Below.refl _ _).alloc (Nat.le_refl _) _) (by omega)⟩⟩
                | none =>
                  have HRES := Lib.hid (show singleF sum ((91 : UInt8) :: t) = none by rw [HSF.out, HLF.out, HWT.out, hrt]; rfl)
                  rw [show rdT none = .tuple #[.int .i64 (-1), .bool false] from rfl]
                  clear hrt
                  go_wp2
                  exact ⟨rfl, .inr ⟨HRES.out, rfl, HOX.out⟩⟩
          · have hx1i : ((x.length : Int) == 1) = false := by simp; omega
            have HWT := Lib.hid (word_test (x := x) (by intro d' e; rw [e] at hx1; exact absurd rfl hx1))
            go_wp2_with fail
            simp only [← HWX.out]
            refine (impl_ReadTest x _ rfl _ HMX.out.mapT).mono ?_
            rintro e1 w2 ⟨rfl, rfl⟩
            cases hrt : readT x with
            | some k =>
              have HRES := Lib.hid (show singleF sum ((91 : UInt8) :: t) = some ([(k : Int)], ((91 : UInt8) :: t).drop W) by rw [HSF.out, HLF.out, HWT.out, hrt]; rfl)
              rw [show rdT (some k) = .tuple #[.int .i64 k, .bool true] from rfl]
              clear hrt
              go_wp2
              go_ret
              exact .inl ⟨_, _, HRES.out, RetV.mk _ rfl ⟨(one_own _ _).wide2 hs2 (Nat.le_refl _), HKX.out.below ((Below.refl _ _).alloc (Nat.le_refl _) _) (by omega), HOX.out.below ((Below.refl _ _).alloc (Nat.le_refl _) _) (by omega)⟩⟩
            | none =>
              have HRES := Lib.hid (show singleF sum ((91 : UInt8) :: t) = none by rw [HSF.out, HLF.out, HWT.out, hrt]; rfl)
              rw [show rdT none = .tuple #[.int .i64 (-1), .bool false] from rfl]
              clear hrt
              go_wp2
              exact ⟨rfl, .inr ⟨HRES.out, rfl, HOX.out⟩⟩
        · rw [pre1 91 c t (by simpa using h91)]
          have hW : leafW (c :: t) = 1 := by
            show (if c.toNat = 33 then _ else if c.toNat = 91 then _ else 1) = 1
            rw [if_neg h33, if_neg h91]
          obtain ⟨W, hWW⟩ : ∃ W, W = 1 := ⟨_, rfl⟩
          rw [← hWW] at hW
          have hWs : W ≤ (c :: t).length := by simp; omega
          have HLF := Lib.hid (leaf_word hW)
          clear hW h33 h91
          obtain rfl : W = 1 := hWW
          have j1 : (1 : Int) ≤ ((c :: t).length : Int) := by omega
          have j2 : (0 : Int) ≤ (1 : Int) := by omega
          have hexW := ext0 (c :: t) 1
          obtain ⟨x, hx⟩ : ∃ x, x = (c :: t).take 1 := ⟨_, rfl⟩
          have hstep : ∀ q, KR g ((w1.drewN q).setCell ⟨g, 1, none⟩ (.int .i64 ((m : Int) + (1 : Int)))) txt ((c :: t).drop 1) := fun q => by rw [HMM.out]; exact HK.out.stepN 1 hWs q
          have hout : ∀ q, Outside g (g + 1) w ((w1.drewN q).setCell ⟨g, 1, none⟩ (.int .i64 ((m : Int) + (1 : Int)))) := fun q => (HO.out.trans (Outside.drawn _ _ _ q)).setCell (p := ⟨g, 1, none⟩) (Nat.le_refl _) (Nat.lt_succ_self _) _
          have HST := Lib.hid (And.intro hstep hout)
          have hxl : x.length ≤ 199 := by rw [hx, List.length_take]; omega
          rw [← hx] at hexW HLF
          have HX := Lib.hid hx
          clear hstep hout hx
          obtain ⟨wx, hwx⟩ : ∃ wx, wx = ((w1.drewN nq).setCell ⟨g, 1, none⟩ (.int .i64 ((m : Int) + (1 : Int)))) := ⟨_, rfl⟩
          have HWX := Lib.hid hwx
          have hws : wx.heap.size = w1.heap.size := by rw [hwx]; simp [World.setCell]
          have HWS := Lib.hid hws
          clear hws
          have HKX := Lib.hid (HST.out.1 nq)
          have HOX := Lib.hid (HST.out.2 nq)
          have HMX := Lib.hid (HM.out.outside ((Outside.drawn g (g + 1) w1 nq).setCell (p := ⟨g, 1, none⟩) (Nat.le_refl _) (Nat.lt_succ_self _) (.int .i64 ((m : Int) + (1 : Int)))) hB)
          rw [← hwx] at HKX HOX HMX
          have hs2 := HOX.out.size
          clear hwx HST
          by_cases hx1 : x.length = 1
          · obtain ⟨d, rfl⟩ := List.length_eq_one_iff.1 hx1
            clear hx1
            have hget : ∀ hh : 0 < (ByteArray.mk #[d]).size, (ByteArray.mk #[d])[0]'hh = d := fun _ => rfl
            have hcmp : (97 ≤ d.toNat ∧ d.toNat ≤ 99) ∨ ((97 ≤ d.toNat) ∧ ¬ (d.toNat ≤ 99) ∨ ¬ (97 ≤ d.toNat)) := by omega
            rcases hcmp with ⟨h1, h2⟩ | h12
            · have i97 : (97 : Int) ≤ d.toNat := by omega
              have i99 : (d.toNat : Int) ≤ 99 := by omega
              have HRES := Lib.hid (show singleF sum (c :: t) = some ([16 + ((d.toNat : Int) - 97)], (c :: t).drop 1) by rw [HSF.out, HLF.out, word_letter h1 h2]; rfl)
              go_wp2_with fail
              simp only [← HWX.out]
              go_ret
              have h3 := one_own (16 + ((d.toNat : Int) - 97)) wx
              rw [HWS.out] at h3
              exact .inl ⟨_, _, HRES.out, RetV.mk _ rfl ⟨h3.wide2 hs1 (Nat.le_refl _), HKX.out.below ((Below.refl _ _).alloc (Nat.le_refl _) _) (by omega), HOX.out.below ((Below.refl _ _).alloc (Nat.le_refl _) _) (by omega)⟩⟩
            · have HWT := Lib.hid (word_test (x := [d]) (by intro d' e; injection e with e _; subst e; omega))
              rcases h12 with ⟨h1, h2⟩ | h1
              · have i97 : (97 : Int) ≤ d.toNat := by omega
                have i99 : ¬ (d.toNat : Int) ≤ 99 := by omega
                go_wp2_with fail
                simp only [← HWX.out]
                refine (impl_ReadTest [d] _ rfl _ HMX.out.mapT).mono ?_
                rintro e1 w2 ⟨rfl, rfl⟩
                cases hrt : readT [d] with
                | some k =>
                  have HRES := Lib.hid (show singleF sum (c :: t) = some ([(k : Int)], (c :: t).drop 1) by rw [HSF.out, HLF.out, HWT.out, hrt]; rfl)
                  rw [show rdT (some k) = .tuple #[.int .i64 k, .bool true] from rfl]
                  clear hrt
                  go_wp2
                  go_ret
                  exact .inl ⟨_, _, HRES.out, RetV.mk _ rfl ⟨(one_own _ _).wide2 hs2 (Nat.le_refl _), HKX.out.below ((Below.refl _ _).alloc (Nat.le_refl _) _) (by omega), HOX.out.below ((Below.refl _ _).alloc (Nat.le_refl _) _) (by omega)⟩⟩
                | none =>
                  have HRES := Lib.hid (show singleF sum (c :: t) = none by rw [HSF.out, HLF.out, HWT.out, hrt]; rfl)
                  rw [show rdT none = .tuple #[.int .i64 (-1), .bool false] from rfl]
                  clear hrt
                  go_wp2
                  exact ⟨rfl, .inr ⟨HRES.out, rfl, HOX.out⟩⟩
              · have i97 : ¬ (97 : Int) ≤ d.toNat := by omega
                go_wp2_with fail
                simp only [← HWX.out]
                refine (impl_ReadTest [d] _ rfl _ HMX.out.mapT).mono ?_
                rintro e1 w2 ⟨rfl, rfl⟩
                cases hrt : readT [d] with
                | some k =>
                  have HRES := Lib.hid (show singleF sum (c :: t) = some ([(k : Int)], (c :: t).drop 1) by rw [HSF.out, HLF.out, HWT.out, hrt]; rfl)
                  rw [show rdT (some k) = .tuple #[.int .i64 k, .bool true] from rfl]
                  clear hrt
                  go_wp2
                  go_ret
                  exact .inl ⟨_, _, HRES.out, RetV.mk _ rfl ⟨(one_own _ _).wide2 hs2 (Nat.le_refl _), HKX.out.below ((Below.refl _ _).alloc (Nat.le_refl _) _) (by omega), HOX.out.below ((Below.refl _ _).alloc (Nat.le_refl _) _) (by omega)⟩⟩
                | none =>
                  have HRES := Lib.hid (show singleF sum (c :: t) = none by rw [HSF.out, HLF.out, HWT.out, hrt]; rfl)
                  rw [show rdT none = .tuple #[.int .i64 (-1), .bool false] from rfl]
                  clear hrt
                  go_wp2
                  exact ⟨rfl, .inr ⟨HRES.out, rfl, HOX.out⟩⟩
          · have hx1i : ((x.length : Int) == 1) = false := by simp; omega
            have HWT := Lib.hid (word_test (x := x) (by intro d' e; rw [e] at hx1; exact absurd rfl hx1))
            go_wp2_with fail
            simp only [← HWX.out]
            refine (impl_ReadTest x _ rfl _ HMX.out.mapT).mono ?_
            rintro e1 w2 ⟨rfl, rfl⟩
            cases hrt : readT x with
            | some k =>
              have HRES := Lib.hid (show singleF sum (c :: t) = some ([(k : Int)], (c :: t).drop 1) by rw [HSF.out, HLF.out, HWT.out, hrt]; rfl)
              rw [show rdT (some k) = .tuple #[.int .i64 k, .bool true] from rfl]
              clear hrt
              go_wp2
              go_ret
              exact .inl ⟨_, _, HRES.out, RetV.mk _ rfl ⟨(one_own _ _).wide2 hs2 (Nat.le_refl _), HKX.out.below ((Below.refl _ _).alloc (Nat.le_refl _) _) (by omega), HOX.out.below ((Below.refl _ _).alloc (Nat.le_refl _) _) (by omega)⟩⟩
            | none =>
              have HRES := Lib.hid (show singleF sum (c :: t) = none by rw [HSF.out, HLF.out, HWT.out, hrt]; rfl)
              rw [show rdT none = .tuple #[.int .i64 (-1), .bool false] from rfl]
              clear hrt
              go_wp2
              exact ⟨rfl, .inr ⟨HRES.out, rfl, HOX.out⟩⟩

theorem short_singleF {sum : PR} (h : Short sum) : Short (singleF sum) := by
  intro s e r hs
  cases s with
  | nil => cases hs
  | cons c t =>
    simp only [singleF] at hs
    split at hs
    · split at hs
      · rename_i e' d r2 he
        split at hs
        · injection hs with hs
          injection hs with h1 h2
          subst h1 h2
          have := h _ _ _ he
          simp at this ⊢
          omega
        · cases hs
      · cases hs
    · obtain ⟨h1, h2⟩ := leafF_pos hs
      simp only [leafF, Option.map_eq_some_iff] at hs
      obtain ⟨k, _, hk⟩ := hs
      injection hk with hk1 hk2
      subst hk1
      rw [h2, List.length_drop]
      have := leafW_le (c :: t)
      simp only [List.length_singleton]
      omega
theorem short_sumF : ∀ n, Short (sumF n)
  | 0 => by intro s e r h; cases h
  | n + 1 => chain_short (chain_short (starred_short (short_singleF (short_sumF n))))
/-- The reader's sum, at any text. -/
theorem sumF_tot : ∀ n, Tot 16 (sumF n) n
  | 0 => by intro B g w txt s hk hn; exact absurd hn (Nat.not_lt_zero _)
  | n + 1 => sum_tot _ _ (chain_short (starred_short (short_singleF (short_sumF n)))) (product_tot _ _ (starred_short (short_singleF (short_sumF n))) (starred_tot _ _ (short_singleF (short_sumF n)) (single_tot _ _ (sumF_tot n))))
end Go.Proofs.YtacgefknhncgfaaDoor
