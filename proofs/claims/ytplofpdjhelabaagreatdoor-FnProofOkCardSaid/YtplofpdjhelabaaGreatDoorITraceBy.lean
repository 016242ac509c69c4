/-
  Texts of walks and plain lemmas for this seat; no condition.
-/
import Derived.Test.YtplofpdjhelabaaGreatDoorGT
import Derived.Test.YtplofpdjhelabaaGreatDoorByP
import Derived.Test.YtplofpdjhelabaaGreatDoorGQ
import Derived.Test.YtplofpdjhelabaaGreatDoorGA
import Derived.Test.YtplofpdjhelabaaGreatDoorTrace
import Derived.Deep.RegionHeldLaw
import Derived.Deep.RegionHeld3
import Derived.Deep.DeepCutAuto
import Derived.Deep.DrawnRows
namespace Go.Proofs.YtplofpdjhelabaaGreatDoor
open Go.RowKit
set_option linter.unusedVariables false

/-! A trace by parts, walked. -/
theorem indexFuncT (lo hi : Nat) (v c : Value) (xss : List (List Int)) (p : List Int → Bool) (w : World) (hx : SlLL lo hi w v xss) (hh : hi ≤ w.heap.size) (hm : xss.length ≤ 1048576)
    (hf : ∀ i (h : i < xss.length) u w', Below w.heap.size w w' → SlI lo hi w' u xss[i] → Calls Tryz.prog 36 #[u, c] w' fun e w'' => e = .returned (.bool (p xss[i])) ∧ Below w'.heap.size w' w'') :
    Calls Tryz.prog 71 #[v, .func (.func 36) #[] #[c]] w fun e w' => e = .returned (.int .i64 (idxP p xss)) ∧ Below w.heap.size w w' := by
  have HF := Lib.hid hf
  have HX := Lib.hid hx
  obtain ⟨a, cap, rfl, hcap, hcm⟩ := hx.shape
  unfold maxLen at hcm
  clear hx hf
  go_enter Tryz.func71, Tryz.ntmps71
  go_wp2
  go_loopw [8] (fun i wr => ∃ j : Nat, j ≤ xss.length ∧ i = .int .i64 j ∧ Hid (Below w.heap.size w wr ∧ ∀ n, n < j → ∀ h : n < xss.length, p xss[n] = false)) (fun i _ => xss.length - (intOf i).toNat)
  case atStart => exact ⟨0, by omega, rfl, Lib.hid ⟨Below.refl _ _, fun n h => by omega⟩⟩
  case round =>
    obtain ⟨j, hj, rfl, HQ⟩ := hrel
    by_cases hlt : j < xss.length
    · obtain ⟨b, off, u, rfl, _, _, _, hcell, hu⟩ := (HX.out.below HQ.out.1 hh).get j hlt
      have HC := Lib.hid (HF.out j hlt u wr HQ.out.1 hu)
      clear hu
      go_wp2_with fail
      refine HC.out.mono ?_
      rintro e w1 ⟨rfl, hb⟩
      have HB := Lib.hid (HQ.out.1.trans (hb.mono HQ.out.1.size))
      clear hb HC
      cases hp : p xss[j]
      · have HN : Hid (∀ n, n < j + 1 → ∀ h : n < xss.length, p xss[n] = false) := Lib.hid fun n hn h => by
          by_cases e : n = j
          · subst e; exact hp
          · exact HQ.out.2 n (by omega) h
        clear hp
        go_wp2
        go_roundw
        case rel => exact ⟨j + 1, by omega, by go_num, Lib.hid ⟨HB.out, HN.out⟩⟩
        case measure => simp [intOf]; omega
      · have HI := Lib.hid (idxP_at p xss j hlt hp HQ.out.2)
        clear hp
        go_wp2
        go_ret
        exact ⟨ret_int HI.out.symm, HB.out⟩
    · have HI := Lib.hid (idxP_none p xss fun n h => HQ.out.2 n (by omega) h)
      go_wp2
      go_ret
      exact ⟨ret_int HI.out.symm, HQ.out.1⟩
theorem containsFuncT (lo hi : Nat) (v c : Value) (xss : List (List Int)) (p : List Int → Bool) (w : World) (hx : SlLL lo hi w v xss) (hh : hi ≤ w.heap.size) (hm : xss.length ≤ 1048576)
    (hf : ∀ i (h : i < xss.length) u w', Below w.heap.size w w' → SlI lo hi w' u xss[i] → Calls Tryz.prog 36 #[u, c] w' fun e w'' => e = .returned (.bool (p xss[i])) ∧ Below w'.heap.size w' w'') :
    Calls Tryz.prog 35 #[v, .func (.func 36) #[] #[c]] w fun e w' => e = .returned (.bool (xss.any p)) ∧ Below w.heap.size w w' := by
  have HC := Lib.hid (indexFuncT lo hi v c xss p w hx hh hm hf)
  have HI := Lib.hid (idxP_any p xss)
  clear hf hx
  go_enter Tryz.func35, Tryz.ntmps35
  go_wp2_with fail
  refine HC.out.mono ?_
  rintro e w1 ⟨rfl, hb⟩
  have HB := Lib.hid hb
  clear hb HC
  go_wp2
  go_ret
  exact ⟨ret_bool HI.out, HB.out⟩

theorem traceBy_fn (lo hi g : Nat) (α : Nat) (u : Value) (t : KT) (w : World) (hk : Blk g (.cells #[.int .i64 α] 3) w) (hu : SlI lo hi w u t.post) (hh : hi ≤ w.heap.size) (hm : t.size ≤ 1000000) (ht : t.ok 0 = true) (hα : α < 4) :
    Calls Tryz.prog 36 #[u, .pointer (some ⟨g, 0, none⟩)] w fun e w' => e = .returned (.bool ((endsK t).testBit α)) ∧ Below w.heap.size w w' := by
  have c0 := hk.cell 0
  have HK := Lib.hid hk
  have HU := Lib.hid hu
  have d0 : w.drew.cell? ⟨g, 0, none⟩ = some (.int .i64 α) := c0
  have hd : Below w.heap.size w w.drew := Below.drew (Below.refl _ _)
  have hdz : w.drew.heap.size = w.heap.size := rfl
  have hgl := hk.lt
  clear hk hu
  go_enter Tryz.func36, Tryz.ntmps36
  go_upto_region 1 with fail
  go_region_held3 (fun w' => w'.cell? ⟨g, 0, none⟩ = some (.int .i64 α)) (first | with_reducible assumption | go_keep) (first
    | (go_at_call 38; refine (ends_any lo hi u t w.drew (HU.out.below hd (by omega)) (by omega) hm ht).mono ?_; rintro e1 w1 ⟨rfl, hb1_⟩; (have hb1 : Below w.heap.size w w1 := hd.trans (hb1_.mono (Nat.le_refl _))); (have e0 := (HK.out.below hb1 hgl).cell 0); (have HB1 := Lib.hid hb1); clear hb1_ hb1)
    | (go_at_call 37; refine (holds_any (endsK t) α (ends_le ht) hα _).mono ?_; rintro e2 _ ⟨rfl, rfl⟩; rw [hb_bit]))
  go_wp2
  go_ret
  exact ⟨rfl, HB1.out⟩
theorem traceV_tr {xs : List Int} (h : traceV xs = true) : (trL xs).isSome = true := trL_some xs (traceV_len h).1 fun i hi => by
  split
  · rename_i hp
    have := traceV_even h i hi hp
    omega
  · rename_i hp
    exact traceV_odd h i hi (by omega)
/-- One row of numbers, laid by the call, that is not the call's own. -/
theorem SlLL.one {lo hi : Nat} {w : World} {u : Value} {x : List Int} (h : SlI lo hi w u x) (hh : hi ≤ w.heap.size) : SlLL 0 (w.heap.size + 1) (w.alloc (.cells #[u] 23)) (.slice (some ⟨w.heap.size, 0, none⟩) 1 1) [x] := by
  refine ⟨some ⟨w.heap.size, 0, none⟩, 1, rfl, Nat.le_refl _, by decide, fun i hi' => ?_⟩
  simp only [List.length_singleton] at hi'
  obtain rfl : i = 0 := by omega
  exact ⟨w.heap.size, 0, u, rfl, Nat.zero_le _, Nat.lt_succ_self _, by simp, (Blk.new w (.cells #[u] 23)).cell 0, (h.below (al_below _ _) hh).wide (Nat.zero_le _) (by omega)⟩
noncomputable def nextS (S : List (List Int)) (α : Nat) (c : Int) (n : Nat) : List (List Int) := (S.take n).flatMap fun p => partsV (treeOf p) α c
theorem nextS_snoc (S : List (List Int)) (α : Nat) (c : Int) (n : Nat) (h : n < S.length) : nextS S α c (n + 1) = nextS S α c n ++ partsV (treeOf S[n]) α c := by
  unfold nextS
  rw [List.take_succ_eq_append_getElem h, List.flatMap_append, List.flatMap_cons, List.flatMap_nil, List.append_nil]
theorem nextS_all (S : List (List Int)) (α : Nat) (c : Int) : ordL (nextS S α c S.length) = stepS S α c := by rw [nextS, List.take_length, stepS]
theorem nextS_len {t0 : KT} (h0 : t0.ok 0 = true) (hs : t0.size ≤ 40) {S : List (List Int)} (h : AllI (Cl t0) S) (α : Nat) {c : Int} (hc : 16 ≤ c) : ∀ n, n ≤ S.length → (nextS S α c n).length ≤ n * 1640
  | 0, _ => by simp [nextS]
  | n + 1, hn => by
    have ih := nextS_len h0 hs h α hc n (by omega)
    rw [nextS_snoc S α c n (by omega), List.length_append]
    obtain ⟨q, q1, q2⟩ := h.mem _ (List.getElem_mem (show n < S.length by omega))
    have hq := (Cl.kept h0).ok q1
    rw [← q2, treeOf_post hq]
    have := partsV_len hq (α := α) hc
    have := Cl.size q1 hs
    omega
theorem stepS_all {t0 : KT} (h0 : t0.ok 0 = true) {S : List (List Int)} (h : AllI (Cl t0) S) {α : Nat} (hα : α < 4) {c : Int} (h1 : 16 ≤ c) (h2 : c ≤ 18) : AllI (Cl t0) (stepS S α c) := by
  refine ⟨sort_nodup (ordL_sort _), fun x hx => ?_⟩
  rw [stepS, ordL_mem, List.mem_flatMap] at hx
  obtain ⟨p, hp, hx⟩ := hx
  obtain ⟨q, q1, rfl⟩ := h.mem p hp
  have hq := (Cl.kept h0).ok q1
  rw [treeOf_post hq] at hx
  obtain ⟨r, r1, rfl⟩ := (partsV_mem hq).1 hx
  obtain ⟨m, hm, e1, e2⟩ : ∃ m, m < 12 ∧ α = m / 3 ∧ c = 16 + ((m % 3 : Nat) : Int) := ⟨3 * α + (c - 16).toNat, by omega, by omega, by omega⟩
  subst e1 e2
  exact ⟨r, (Cl.kept h0).pt q1 (by omega) (by omega) r1, rfl⟩

theorem byV_step (S : List (List Int)) (α c : Int) {r : List Int} (h : r ≠ []) : byV S (α :: c :: r) = byV (stepS S α.toNat c) r := by
  cases r with
  | nil => exact absurd rfl h
  | cons x y => rfl
set_option maxRecDepth 100000 in
set_option maxHeartbeats 12800000 in
theorem traceBy_any (lo hi lo' hi' : Nat) (ve vt : Value) (e t : List Int) (w : World) (hx : SlI lo hi w ve e) (hy : SlI lo' hi' w vt t) (hh : hi ≤ w.heap.size) (hh' : hi' ≤ w.heap.size) (hm : e.length ≤ 1048576) (hm' : t.length ≤ 1048576) :
    Calls Tryz.prog 11 #[ve, vt] w fun e1 w' => e1 = .returned (.bool (katV e && traceV t && byV [e] t)) ∧ Below w.heap.size w w' := by
  have HX := Lib.hid hx
  have HY := Lib.hid hy
  obtain ⟨ea, ec, rfl, _, _⟩ := Sl.shape hx
  obtain ⟨ta, tc, rfl, _, _⟩ := Sl.shape hy
  clear hx hy
  cases hk : katV e
  · go_enter Tryz.func11, Tryz.ntmps11
    go_wp2_with fail
    refine (impl_KatValid _ _ _ e w HX.out hm).mono ?_
    rintro e1 _ ⟨rfl, rfl⟩
    rw [hk]
    go_wp2
    go_ret
    exact ⟨rfl, Below.refl _ _⟩
  · cases ht : traceV t
    · go_enter Tryz.func11, Tryz.ntmps11
      go_wp2_with fail
      refine (impl_KatValid _ _ _ e w HX.out hm).mono ?_
      rintro e1 _ ⟨rfl, rfl⟩
      rw [hk]
      go_wp2_with fail
      refine (impl_TraceValid _ _ _ t w HY.out hm').mono ?_
      rintro e1 _ ⟨rfl, rfl⟩
      rw [ht]
      go_wp2
      go_ret
      exact ⟨rfl, Below.refl _ _⟩
    · have HK := Lib.hid hk
      have HTV := Lib.hid ht
      obtain ⟨hodd, h41⟩ := traceV_len ht
      obtain ⟨t0, ht0, hp0, _, hs0⟩ := katV_tree hk
      have HT0 := Lib.hid ht0
      have HCK := Lib.hid (Cl.kept ht0)
      have HAI : Hid (AllI (Cl t0) [e]) := Lib.hid (by rw [← hp0]; exact AllI.one (List.mem_cons_self ..))
      have HSL := Lib.hid (SlLL.one HX.out hh)
      have HLE := Lib.hid (show e.length ≤ 40 from by rw [← hp0, t0.post_length]; exact hs0)
      have HBA := Lib.hid (al_below w (.cells #[.slice ea e.length ec] 23))
      clear hk ht hp0 ht0
      go_enter Tryz.func11, Tryz.ntmps11
      go_wp2_with fail
      refine (impl_KatValid _ _ _ e w HX.out hm).mono ?_
      rintro e1 _ ⟨rfl, rfl⟩
      rw [HK.out]
      go_wp2_with fail
      refine (impl_TraceValid _ _ _ t w HY.out hm').mono ?_
      rintro e1 _ ⟨rfl, rfl⟩
      rw [HTV.out]
      go_wp2
      go_loopw [5, 6] (fun v i wr => ∃ (k : Nat) (S : List (List Int)), k % 2 = 0 ∧ k + 1 ≤ t.length ∧ S.length ≤ 41 ∧ i = .int .i64 (k : Int) ∧ Hid (SlLL 0 wr.heap.size wr v S ∧ Below w.heap.size w wr ∧ AllI (Cl t0) S ∧ byV S (t.drop (k)) = byV [e] t)) (fun _ i _ => t.length - (intOf i).toNat)
      case atStart => exact ⟨0, [e], by omega, by omega, by simp, rfl, Lib.hid ⟨by rw [alloc_size]; exact HSL.out, HBA.out, HAI.out, rfl⟩⟩
      case round =>
        rename World => wr
        obtain ⟨k, S, hk2, hk1, h41S, rfl, HQ⟩ := hrel
        have hzr := HQ.out.2.1.size
        obtain ⟨sa, sc, rfl, _, _⟩ := HQ.out.1.shape
        have HTR := Lib.hid (HY.out.below HQ.out.2.1 hh')
        by_cases hlt : k + 1 < t.length
        · have hd1 : decide ((k : Int) + 1 < (t.length : Int)) = true := by simp; omega
          obtain ⟨α, hα, hα4⟩ : ∃ α : Nat, t[k]'(by omega) = α ∧ α < 4 := by
            have := traceV_even HTV.out k (by omega) hk2
            exact ⟨(t[k]'(by omega)).toNat, by omega, by omega⟩
          obtain ⟨c, hc⟩ : ∃ c, c = t[k + 1]'hlt := ⟨_, rfl⟩
          have hc12 := traceV_odd HTV.out (k + 1) hlt (by omega)
          rw [← hc] at hc12
          obtain ⟨hc1, hc2⟩ := hc12
          obtain ⟨bt, offt, rfl, _, _, hbt, ct0⟩ := SlI.get HTR.out (k) (by omega)
          obtain ⟨bt', offt', et, _, _, _, ct1⟩ := SlI.get HTR.out (k + 1) hlt
          injection et with et
          injection et with et1 et2 _
          subst et1 et2
          rw [hα] at ct0
          rw [← hc] at ct1
          have HST := Lib.hid (show byV S (t.drop (k)) = byV (stepS S α c) (t.drop (k + 2)) from by
            rw [List.drop_eq_getElem_cons (show k < t.length by omega), List.drop_eq_getElem_cons hlt, hα, ← hc, byV_step]
            · rfl
            · simp; omega)
          have HAN := Lib.hid (stepS_all HT0.out HQ.out.2.2.1 hα4 hc1 hc2)
          clear hα hc
          have hwr : w.heap.size ≤ wr.heap.size := hzr
          go_wp2
          go_loopw [7, 30] (fun v i wx => ∃ (n : Nat) (ss : List Value), n ≤ S.length ∧ ss.length ≤ n * 1640 ∧ i = .int .i64 n ∧ Hid (LLs wr.heap.size wx.heap.size wx v ss (nextS S α c n) ∧ Below wr.heap.size wr wx)) (fun _ i _ => S.length - (intOf i).toNat)
          case atStart => exact ⟨0, [], by omega, by simp, rfl, Lib.hid ⟨by simpa [nextS] using LLs.nil wr.heap.size wr.heap.size wr, Below.refl _ _⟩⟩
          case round =>
            rename World => wx
            obtain ⟨n, ss, hn, hss, rfl, HN⟩ := hrel
            have hzx := HN.out.2.size
            obtain ⟨na, nc, rfl⟩ := Own.shape HN.out.1.1
            by_cases hltn : n < S.length
            · obtain ⟨b5, off5, u5, rfl, _, _, _, c5, hu5⟩ := (HQ.out.1.below HN.out.2 (Nat.le_refl _)).get n hltn
              have HU5 := Lib.hid hu5
              obtain ⟨pa5, pc5, rfl, _, _⟩ := Sl.shape hu5
              obtain ⟨q, hq1, hq2⟩ := HQ.out.2.2.1.mem _ (List.getElem_mem hltn)
              have hqok := HCK.out.ok hq1
              have hqs := Cl.size hq1 hs0
              have hqt : treeOf S[n] = q := by rw [← hq2, treeOf_post hqok]
              have HQ1 := Lib.hid (And.intro hq1 (And.intro hq2 (And.intro hqok hqt)))
              have HLN := Lib.hid (show nextS S α c (n + 1) = nextS S α c n ++ partsV q α c by rw [nextS_snoc S α c n hltn, hqt])
              have hpn := partsV_len hqok (α := α) hc1
              have hS41 : n ≤ 40 := by omega
              have HPB : Hid (∀ x ∈ partsV q α c, x.length ≤ 100000) := Lib.hid fun x hx => by
                obtain ⟨r, r1, rfl⟩ := (partsV_mem hqok).1 hx
                obtain ⟨m, hm, e1, e2⟩ : ∃ m, m < 12 ∧ α = m / 3 ∧ c = 16 + ((m % 3 : Nat) : Int) := ⟨3 * α + (c - 16).toNat, by omega, by omega, by omega⟩
                rw [e1, e2] at r1
                have := Cl.size (HCK.out.pt hq1 (by omega) (by omega) r1) hs0
                rw [r.post_length]
                omega
              have HCT : Hid (∀ w' : World, Below wx.heap.size wx w' → w'.cell? ⟨bt, offt + k, none⟩ = some (.int .i64 α) ∧ w'.cell? ⟨bt, offt + (k + 1), none⟩ = some (.int .i64 c)) := Lib.hid fun w' hb' => by
                have hb2 := HN.out.2.trans (hb'.mono hzx)
                exact ⟨(hb2.cell (p := ⟨bt, offt + k, none⟩) hbt).trans ct0, (hb2.cell (p := ⟨bt, offt + (k + 1), none⟩) hbt).trans ct1⟩
              have HCO : Hid (∀ wA wB : World, Below wx.heap.size wx wA → Outside wr.heap.size wx.heap.size wA wB → wB.cell? ⟨bt, offt + k, none⟩ = some (.int .i64 α) ∧ wB.cell? ⟨bt, offt + (k + 1), none⟩ = some (.int .i64 c)) := Lib.hid fun wA wB hA hB => by
                obtain ⟨r0, r1⟩ := HCT.out wA hA
                have hAz := hA.size
                exact ⟨(World.cell?_of_block (w := wA) (a := ⟨bt, offt + k, none⟩) (hB.block bt (by omega) (.inl hbt))).trans r0, (World.cell?_of_block (w := wA) (a := ⟨bt, offt + (k + 1), none⟩) (hB.block bt (by omega) (.inl hbt))).trans r1⟩
              obtain ⟨g0, g1⟩ := HCT.out wx (Below.refl _ _)
              obtain ⟨h0, h1⟩ := HCT.out wx.drew (Below.drew (Below.refl _ _))
              have hdx : wx.drew.heap.size = wx.heap.size := rfl
              have hkt1 : (k : Int) < (t.length : Int) := by omega
              have hkt2 : (k : Int) + 1 < (t.length : Int) := by omega
              have hkt3 : (0 : Int) ≤ (k : Int) + 1 := by omega
              have hkt4 : ¬ ((k : Int) + 1 < 0) := by omega
              have hkt5 : ¬ ((t.length : Int) ≤ (k : Int) + 1) := by omega
              have hkt7 : IntKind.i64.wrap ((k : Int) + 1) = (k : Int) + 1 := IntWalk.i64_in _ (by omega)
              obtain ⟨L0, hL0⟩ : ∃ L0, L0 = nextS S α c n := ⟨_, rfl⟩
              rw [← hL0] at HN HLN
              obtain ⟨ps, hps⟩ : ∃ x, x = partsV q α c := ⟨_, rfl⟩
              have HPS := Lib.hid hps
              rw [← hps] at HLN hpn
              clear hq1 hq2 hqok hqt hL0 hps hu5
              go_upto_region 11 with fail
              have HPC : Hid (∀ (w' : World) (pp : Value), RT wx.heap.size none w' q pp → Calls Tryz.prog 33 #[pp, .int .i64 α, .int .i64 c] w' (RetV fun v w2 => (∃ sp, LLs w'.heap.size w2.heap.size w2 v sp ps) ∧ Below w'.heap.size w' w2)) := Lib.hid fun w' pp hrt => by
                rw [HPS.out]
                exact parts_any q _ _ w' α c hrt HQ1.out.2.2.1 (by omega) hα4 hc1 hc2 HPB.out
              go_region_held3 (fun w' => w'.cell? ⟨bt, offt + k, none⟩ = some (.int .i64 α) ∧ w'.cell? ⟨bt, offt + (k + 1), none⟩ = some (.int .i64 c)) (first | with_reducible assumption | go_keep) (first
                | (go_at_call 32; refine (implBuildL _ S[n] q wx.drew (SlI.rd (HU5.out.below (Below.drew (Below.refl wx.heap.size wx)) (by omega)) (by omega)) (by rw [← HQ1.out.2.1, q.post_length]; omega) (by rw [← HQ1.out.2.1]; exact runK_post 0 q HQ1.out.2.2.1 [])).mono ?_; rintro e4 w4 ⟨p4, rfl, hb4_, hrt4⟩; (have hz4 := hb4_.size); (have HB4 := Lib.hid ((Below.drew (Below.refl wx.heap.size wx)).trans (hb4_.mono (Nat.le_refl _)))); obtain ⟨i0, i1⟩ := HCT.out w4 HB4.out; obtain ⟨pp4, rfl⟩ := hrt4.isPtr; (have HRT := Lib.hid hrt4); clear hb4_ hrt4)
                | (go_at_call 33; refine (HPC.out w4 _ HRT.out).mono ?_; rintro e5 w5 ⟨v5, rfl, ⟨sp, h5_⟩, hb5_⟩; (have hz5 := hb5_.size); (have HB5 := Lib.hid (HB4.out.trans (hb5_.mono (by omega)))); obtain ⟨j0, j1⟩ := HCT.out w5 HB5.out; (have hl5 : sp.length ≤ 1640 := Nat.le_trans (Nat.le_of_eq h5_.2.1) (Nat.le_trans hpn hqs)); (have L5 := Lib.hid h5_); obtain ⟨x5a, x5c, rfl⟩ := Own.shape h5_.1; (have LN := Lib.hid (HN.out.1.below HB5.out (Nat.le_refl _))); clear h5_ hb5_)
                | ((have g_ := L5); refine step_app_any (by rfl) _ _ 31 (by rfl) 23 (.slice none 0 0) 1 24 Tryz.underlying31 info_ints (by rfl) (by decide) (by decide) (by rfl) LN.out.1 (by rfl) L5.out.1.sl L5.out.cellsOne (by omega) (by omega) ?_; intro v6 w6 ho6 hout6 hg6; (have hz6 := hout6.size); (have H6 := Lib.hid (LLs.join LN.out hg6 ho6 rfl L5.out.2.1 (fun i h1 h2 => (L5.out.2.2 i h1 h2).lower (by omega) hz6) (by omega))); (have HB6 := Lib.hid (Below.outside (HN.out.2.trans (HB5.out.mono hzx)) hout6 (Nat.le_refl _) (by omega))); obtain ⟨l0, l1⟩ := HCO.out w5 w6 HB5.out hout6; obtain ⟨x6a, x6c, rfl⟩ := Own.shape ho6; clear ho6 hout6 hg6 g_))
              have HF6 := Lib.hid (show LLs wr.heap.size w6.heap.size w6 (.slice x6a (ss.length + sp.length) x6c) (ss ++ sp) (nextS S α c (n + 1)) ∧ Below wr.heap.size wr w6 from ⟨by rw [HLN.out]; exact H6.out, HB6.out⟩)
              have hlen6 : (ss ++ sp).length ≤ (n + 1) * 1640 := by rw [List.length_append]; omega
              have HL6 := Lib.hid hlen6
              clear hlen6 l0 l1 j0 j1 i0 i1 g0 g1 h0 h1 HN HLN
              go_wp2
              go_roundw
              case rel => exact ⟨n + 1, ss ++ sp, by omega, HL6.out, by go_num, HF6⟩
              case measure => simp [intOf]; omega
            · obtain rfl : n = S.length := by omega
              go_wp2_with fail
              refine (parts_ord (w := wr) (yss := stepS S α c) HN.out.1 HN.out.2 (by omega) (nextS_all S α c)).mono ?_
              rintro e6 w6 ⟨v6, rfl, ⟨ss6, h6⟩, hb6⟩
              have hz6 := hb6.size
              have HR6 := Lib.hid (show SlLL 0 w6.heap.size w6 v6 (stepS S α c) ∧ Below w.heap.size w w6 ∧ AllI (Cl t0) (stepS S α c) ∧ byV (stepS S α c) (t.drop (k + 2)) = byV [e] t from ⟨h6.sl.wide (Nat.zero_le _) (Nat.le_refl _), HQ.out.2.1.trans (hb6.mono hzr), HAN.out, by rw [← HST.out]; exact HQ.out.2.2.2⟩)
              have h41n := HAN.out.len hs0
              obtain ⟨a6, c6, rfl⟩ := Own.shape h6.1
              clear h6 hb6
              go_wp2
              go_roundw
              case rel => exact ⟨k + 2, stepS S α c, by omega, by omega, h41n, by go_num, HR6⟩
              case measure => simp [intOf]; omega
        · obtain rfl : k = t.length - 1 := by omega
          have hd1 : decide (((t.length - 1 : Nat) : Int) + 1 < (t.length : Int)) = false := by simp; omega
          obtain ⟨α, hα, hα4⟩ : ∃ α : Nat, t[t.length - 1]'(by omega) = α ∧ α < 4 := by
            have := traceV_even HTV.out (t.length - 1) (by omega) (by omega)
            exact ⟨(t[t.length - 1]'(by omega)).toNat, by omega, by omega⟩
          obtain ⟨bt, offt, rfl, _, _, hbt, ct0⟩ := SlI.get HTR.out (t.length - 1) (by omega)
          rw [hα] at ct0
          have HAN := Lib.hid (show S.any (fun x => (endsK (treeOf x)).testBit α) = byV [e] t from by
            have h := HQ.out.2.2.2
            rw [List.drop_eq_getElem_cons (show t.length - 1 < t.length by omega), hα, List.drop_of_length_le (by omega)] at h
            rw [← h]
            rfl)
          have HQ5 := Lib.hid (HQ.out.1.below (al_below wr (.cells #[.int .i64 α] 3)) (Nat.le_refl _))
          have HB5 := Lib.hid (al_below wr (.cells #[.int .i64 α] 3))
          have HK5 := Lib.hid (Blk.new wr (.cells #[.int .i64 α] 3))
          have HFN : Hid (∀ i (h : i < S.length) u w', Below (wr.alloc (.cells #[.int .i64 α] 3)).heap.size (wr.alloc (.cells #[.int .i64 α] 3)) w' → SlI 0 wr.heap.size w' u S[i] → Calls Tryz.prog 36 #[u, .pointer (some ⟨wr.heap.size, 0, none⟩)] w' fun e w'' => e = .returned (.bool ((endsK (treeOf S[i])).testBit α)) ∧ Below w'.heap.size w' w'') := Lib.hid fun i h u w' hb hu => by
            obtain ⟨q, hq1, hq2⟩ := HQ.out.2.2.1.mem _ (List.getElem_mem h)
            have hqok := HCK.out.ok hq1
            have hqs := Cl.size hq1 hs0
            rw [← hq2] at hu ⊢
            rw [treeOf_post hqok]
            have hsz := hb.size
            rw [alloc_size] at hsz
            exact traceBy_fn 0 wr.heap.size wr.heap.size α u q w' (HK5.out.below hb (by rw [alloc_size]; exact Nat.lt_succ_self _)) hu (by omega) (by omega) hqok hα4
          have hlw : IntKind.i64.wrap ((t.length : Int) - 1) = (t.length : Int) - 1 := IntWalk.i64_in _ (by omega)
          have hl1 : (0 : Int) ≤ (t.length : Int) - 1 := by omega
          have hl2 : (t.length : Int) - 1 < (t.length : Int) := by omega
          clear hα
          go_wp2_with fail
          refine (containsFuncT 0 wr.heap.size _ _ S (fun x => (endsK (treeOf x)).testBit α) _ HQ5.out (by rw [alloc_size]; exact Nat.le_succ _) (by omega) HFN.out).mono ?_
          rintro e9 w9 ⟨rfl, hb9⟩
          have HB9 := Lib.hid (HQ.out.2.1.trans ((HB5.out.trans (hb9.mono (by rw [alloc_size]; exact Nat.le_succ _))).mono hzr))
          clear hb9
          rw [HAN.out]
          go_wp2
          go_ret
          exact ⟨by rfl, HB9.out⟩
end Go.Proofs.YtplofpdjhelabaaGreatDoor
