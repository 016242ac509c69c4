/-
  Texts of walks and plain lemmas for this seat; no condition.
-/
import Derived.Test.YtoondakdjhhehaaDoorSPgK
import Derived.Test.YtoondakdjhhehaaDoorSRowsK
import Derived.Test.YtoondakdjhhehaaDoorGZE
import Derived.Test.YtoondakdjhhehaaDoorSCRun
namespace Go.Proofs.YtoondakdjhhehaaDoor
open Go.RowKit
set_option linter.unusedVariables false

theorem progK_rows {M : Mo} {p e : List Int} (h : progK p = some e) (hM : modB M = true) : ∃ T : KT, e = T.post ∧ T.ok 0 = true ∧ T.size ≤ 40 ∧ rowsR M.n.toNat (den (leafM M) T) = rowsV M e := by
  obtain ⟨T, h1, h2, h3, h4, h5, h6, h7, h8⟩ := progK_open h
  refine ⟨T.kat, h5, PT.kat_ok h1, h4, ?_⟩
  rw [rowsV, hM, h7, h8]
  rfl
set_option maxRecDepth 100000 in
set_option maxHeartbeats 1600000 in
theorem spec_ProgEnds (la ha lo hi : Nat) (M : Mo) (va vp : Value) (p : List Int) (st : Int) (w : World) (hA : SlLL la ha w va M.acts) (hha : ha ≤ w.heap.size) (hm : M.acts.length ≤ 1048576) (hm2 : ∀ x ∈ M.acts, x.length ≤ 1048576)
    (hP : SlI lo hi w vp p) (hhi : hi ≤ w.heap.size) (hmp : p.length ≤ 1048576) :
    Calls Tryd.prog 20 #[aggMo M va, vp, .int .i64 st] w fun e w' => e = .returned (.int .i64 (endV M p st)) ∧ Below w.heap.size w w' := by
  obtain ⟨sa, sc, rfl, _, hmx⟩ := hA.shape
  obtain ⟨pa, pc, rfl, hcc, hcm⟩ := hP.shape
  clear hmx hcc hcm
  have H1 : Hid (progK p = none → endV M p st = -1) := Lib.hid endV_no1
  have H2 : Hid (certB M = false → endV M p st = -1) := Lib.hid endV_no2
  have H3 : Hid (inB st 0 (M.n - 1) = false → endV M p st = -1) := Lib.hid endV_no3
  have H4 : Hid (∀ e (s : Nat), progK p = some e → certB M = true → s < M.n.toNat → st = s → endV M p st = if ((rowsV M e).getD s 0).toNat = 0 then -1 else ((tzN ((rowsV M e).getD s 0).toNat : Nat) : Int)) := Lib.hid fun e s h1 h2 h3 h4 => by rw [h4]; exact endV_some h1 h2 h3
  have H5 : Hid (∀ e (s : Nat), progK p = some e → certB M = true → s < M.n.toNat → _) := Lib.hid fun e s h1 h2 h3 => end_row h1 h2 h3
  obtain ⟨R, hR⟩ : ∃ R, R = endV M p st := ⟨_, rfl⟩
  rw [← hR] at H1 H2 H3 H4 ⊢
  clear hR
  have HC0 := Lib.hid (spec_Certain la ha M (.slice sa M.acts.length sc))
  obtain ⟨gM, hgM⟩ : ∃ gM, gM = w.heap.size := ⟨_, rfl⟩
  obtain ⟨w0, hw0⟩ : ∃ w0, w0 = w.alloc (.cells #[.int .i64 M.n, .int .i64 M.p, .int .i64 M.q, .slice sa M.acts.length sc] 25) := ⟨_, rfl⟩
  obtain ⟨hb0, KB_, hs0⟩ := box_facts3 hw0
  rw [← hgM] at KB_
  have KB := Lib.hid KB_
  have HB := Lib.hid hb0
  have HA := Lib.hid (hA.below hb0 hha)
  have HX := Lib.hid (spec_ProgKat lo hi _ p w0 (hP.below hb0 hhi) (by omega) hmp)
  have HM2 := Lib.hid hm2
  have HW := Lib.hid hw0
  have HGM := Lib.hid hgM
  have hgl := KB.out.lt
  have k0 := KB.out.cell 0
  have k1 := KB.out.cell 1
  have k2 := KB.out.cell 2
  have k3 := KB.out.cell 3
  clear hA hP hm2 hb0 KB_ hw0 hgM
  go_enter Tryd.func20, Tryd.ntmps20
  go_upto_region 1 with (rw [← HW.out])
  try rw [← HW.out]
  rw [← HGM.out]
  go_wp2_with fail
  refine HX.out.mono ?_
  rintro e1 w1 h
  clear k0 k1 k2 k3 HW HX
  cases hk : progK p with
  | none =>
    obtain ⟨xa, xc, rfl, hb1⟩ := h.none hk
    have HE := Lib.hid (H1.out hk)
    replace HB := Lib.hid (HB.out.trans (hb1.mono (by omega)))
    clear h hk hb1 H1 H2 H3 H4 H5
    go_wp2
    go_ret
    exact ⟨ret_int HE.out.symm, HB.out⟩
  | some e =>
    obtain ⟨xa, xc, rfl, ho1, hb1⟩ := h.some hk
    have hs1 := hb1.size
    replace KB := Lib.hid (KB.out.below hb1 hgl)
    replace HA := Lib.hid (HA.out.below hb1 (by omega))
    replace HB := Lib.hid (HB.out.trans (hb1.mono (by omega)))
    have HO := Lib.hid ho1
    have HK := Lib.hid hk
    have hel : e.length ≤ 40 := by obtain ⟨T, _, _, _, h4, h5, _⟩ := progK_open hk; rw [h5, KT.post_length]; exact h4
    clear h hk hb1 ho1 H1
    have hgl1 := KB.out.lt
    have k0 := KB.out.cell 0
    have k1 := KB.out.cell 1
    have k2 := KB.out.cell 2
    have k3 := KB.out.cell 3
    go_wp2_with fail
    refine (HC0.out w1 HA.out (by omega) hm HM2.out).mono ?_
    rintro e2 w2 ⟨rfl, hb2⟩
    clear k0 k1 k2 k3 HC0
    have hs2 := hb2.size
    replace KB := Lib.hid (KB.out.below hb2 hgl1)
    replace HA := Lib.hid (HA.out.below hb2 (by omega))
    replace HB := Lib.hid (HB.out.trans (hb2.mono (by omega)))
    replace HO := Lib.hid (HO.out.below hb2 (Nat.le_refl _))
    have hgl2 := KB.out.lt
    clear hb2
    cases h1 : certB M
    · have HE := Lib.hid (H2.out h1)
      clear h1 H2 H3 H4 H5
      go_wp2
      go_ret
      exact ⟨ret_int HE.out.symm, HB.out⟩
    · have HCe := Lib.hid h1
      obtain ⟨hn1, hn2⟩ := certB_n h1
      have hns : IntKind.i64.wrap (M.n - 1) = M.n - 1 := IntWalk.i64_in _ (by omega)
      clear H2 h1
      have k0 := KB.out.cell 0
      cases h3 : inB st 0 (M.n - 1)
      · have HE := Lib.hid (H3.out h3)
        have HI : Hid (∀ w', Calls Tryd.prog 44 #[.int .i64 st, .int .i64 0, .int .i64 (M.n - 1)] w' fun e w'' => e = .returned (.bool false) ∧ w' = w'') := Lib.hid fun w' => by rw [← h3]; exact l1In_any _ _ _ _
        clear h3 H3 H4 H5
        go_wp2_with (go_at_call 44; refine (HI.out _).mono ?_; rintro e_ _ ⟨rfl, rfl⟩)
        go_ret
        exact ⟨ret_int HE.out.symm, HB.out⟩
      · have HI : Hid (∀ w', Calls Tryd.prog 44 #[.int .i64 st, .int .i64 0, .int .i64 (M.n - 1)] w' fun e w'' => e = .returned (.bool true) ∧ w' = w'') := Lib.hid fun w' => by rw [← h3]; exact l1In_any _ _ _ _
        simp only [inB, Bool.and_eq_true, decide_eq_true_eq] at h3
        obtain ⟨s, rfl⟩ : ∃ s : Nat, st = s := ⟨st.toNat, by omega⟩
        replace H4 := Lib.hid (H4.out e s HK.out HCe.out (by omega) rfl)
        obtain ⟨r1, r2, r3, x, r4⟩ := H5.out e s HK.out HCe.out (by omega)
        rw [r4, Int.toNat_natCast] at r2 r3 H4
        obtain ⟨T, t1, t2, t3, t4⟩ := progK_rows HK.out (certB_mod HCe.out)
        obtain ⟨n, P, Q, acts⟩ := M
        obtain ⟨n', P', Q', e1, e2, e3, hok⟩ := modB_open (certB_mod HCe.out)
        simp only at e1 e2 e3 hok
        subst e1 e2 e3
        simp only at KB HA HM2 hm hn1 hn2 hns h3 hgl hgl1 hgl2 k0 HI
        simp only [Int.toNat_natCast] at t4 r3
        have hnn := hok.n5
        have HRC := Lib.hid (rowsS_any T t2 _ _ la ha n' P' Q' acts _ _ w2 hok HA.out (by omega) (by rw [← t1]; exact HO.out.sl) (by omega) (by omega) t2)
        rw [t4] at HRC
        have HL := Lib.hid r1
        have HG := Lib.hid r4
        have hsn : s < n' := by omega
        have HS : Hid (x = 0 ∨ (sole x = true ∧ tzN x < n')) := Lib.hid (by
          rcases r3 with ⟨h, _⟩ | ⟨h1, h2, _⟩
          · exact .inl h
          · exact .inr ⟨h1, h2⟩)
        have HMT : Hid (∀ va w', Calls Tryd.prog 57 #[aggMo (⟨(n' : Int), (P' : Int), (Q' : Int), acts⟩ : Mo) va, .slice xa e.length xc] w' (RowsNew w' (rowsV ⟨(n' : Int), (P' : Int), (Q' : Int), acts⟩ e)) → True) := Lib.hid fun _ _ _ => trivial
        obtain ⟨rows, hrows⟩ : ∃ rows, rows = rowsV (⟨(n' : Int), (P' : Int), (Q' : Int), acts⟩ : Mo) e := ⟨_, rfl⟩
        rw [← hrows] at HRC HL HG
        clear H3 H5 h3 r1 r3 r4 hrows t1 t2 t3 t4 HMT hok
        have k1 := KB.out.cell 1
        have k2 := KB.out.cell 2
        have k3 := KB.out.cell 3
        go_wp2_with (go_at_call 44; refine (HI.out _).mono ?_; rintro e_ _ ⟨rfl, rfl⟩)
        refine HRC.out.mono ?_
        rintro e4 w4 ⟨v4, rfl, o4, hb4⟩
        obtain ⟨b4, c4, rfl, hc4, hm4⟩ := o4.sl.shape
        unfold maxLen at hm4
        obtain ⟨b, off, rfl, _, _, _, hcell⟩ := o4.sl.get s HL.out
        have hg : rows[s] = (x : Int) := by
          have h := HG.out
          rwa [List.getD_eq_getElem?_getD, List.getElem?_eq_getElem HL.out, Option.getD_some] at h
        replace hcell := hcell.trans (congrArg (fun z => some (Value.int .i64 z)) hg)
        have hsl := HL.out
        have KR := Lib.hid (KB.out.below hb4 hgl2)
        replace HB := Lib.hid (HB.out.trans (hb4.mono (by omega)))
        clear o4 hb4 HRC k0 k1 k2 k3 hg
        have k0 := KR.out.cell 0
        have HBI := Lib.hid fun k (hk : k ≤ 60) => l1BitG x k (by omega) hk w4
        go_wp2
        go_loop [10] (fun kv => ∃ k : Nat, kv = .int .i64 k ∧ k ≤ n' ∧ Hid (x = 0 ∨ k ≤ tzN x)) (fun kv => n' - (intOf kv).toNat)
        case atStart => exact ⟨0, rfl, by omega, Lib.hid (.inr (Nat.zero_le _))⟩
        case round =>
          obtain ⟨k, rfl, hk, HQ⟩ := hrel
          by_cases hlt : k < n'
          · have hd : decide ((k : Int) < (n' : Int)) = true := decide_eq_true (by omega)
            have HBC := Lib.hid (HBI.out k (by omega))
            cases hb : x.testBit k with
            | false =>
              have hbi : bitI x k = 0 := by simp [bitI, hb]
              rw [hbi] at HBC
              have HN : Hid (x = 0 ∨ k + 1 ≤ tzN x) := Lib.hid (by
                rcases HS.out with h | ⟨h1, h2⟩
                · exact .inl h
                · rcases HQ.out with h | h
                  · exact .inl h
                  · refine .inr ?_
                    have hne : k ≠ tzN x := fun he => by rw [(sole_bit h1).2 he] at hb; cases hb
                    omega)
              clear hb hbi
              go_wp2_with fail
              refine HBC.out.mono ?_
              rintro e_ _ ⟨rfl, rfl⟩
              go_wp2
              go_round
              case rel => exact ⟨k + 1, by go_num, by omega, HN⟩
              case measure => simp [intOf]; omega
            | true =>
              have hbi : bitI x k = 1 := by simp [bitI, hb]
              rw [hbi] at HBC
              have HE : Hid (R = (k : Int)) := Lib.hid (by
                have hx0 : x ≠ 0 := fun h => by rw [h] at hb; simp at hb
                rw [H4.out, if_neg hx0]
                rcases HS.out with h | ⟨h1, h2⟩
                · exact absurd h hx0
                · rw [(sole_bit h1).1 hb])
              clear hb hbi
              go_wp2_with fail
              refine HBC.out.mono ?_
              rintro e_ _ ⟨rfl, rfl⟩
              go_wp2
              go_ret
              exact ⟨ret_int HE.out.symm, HB.out⟩
          · obtain rfl : k = n' := by omega
            have hd : decide ((k : Int) < (k : Int)) = false := by simp
            have HE : Hid (R = -1) := Lib.hid (by
              have hx0 : x = 0 := by
                rcases HS.out with h | ⟨h1, h2⟩
                · exact h
                · rcases HQ.out with h | h
                  · exact h
                  · omega
              rw [H4.out, if_pos hx0])
            go_wp2
            go_ret
            exact ⟨ret_int HE.out.symm, HB.out⟩
end Go.Proofs.YtoondakdjhhehaaDoor
