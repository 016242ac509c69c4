/-
  Texts of walks and plain lemmas for this seat; no condition.
-/
import Derived.Test.YtoondakdjhhehaaDoorGA
import Derived.Test.YtoondakdjhhehaaDoorGQ
import Derived.Test.YtoondakdjhhehaaDoorCertI
import Derived.Test.YtoondakdjhhehaaDoorGB
import Derived.Test.YtoondakdjhhehaaDoorStepApp
import Derived.Laws.MakeOwn
import Derived.Deep.QuietTactic
import Derived.Deep.RegionHeld3
import Derived.Deep.DeepCutAuto
import Derived.Deep.DrawnRows
import Derived.Deep.RegionWith
namespace Go.Proofs.YtoondakdjhhehaaDoor
open Go.RowKit
set_option linter.unusedVariables false

/-! The laws' copies of models. -/
def sumL (xss : List (List Int)) : Nat := (xss.map List.length).sum
theorem sumL_snoc (xss : List (List Int)) (k : Nat) (h : k < xss.length) : sumL (xss.take (k + 1)) = sumL (xss.take k) + xss[k].length := by
  rw [List.take_succ_eq_append_getElem h, sumL, List.map_append, List.sum_append]
  simp [sumL]
theorem sumL_le (xss : List (List Int)) : ∀ k, sumL (xss.take k) ≤ sumL xss := fun k => by
  have h := congrArg sumL (List.take_append_drop k xss)
  unfold sumL at h ⊢
  rw [List.map_append, List.sum_append] at h
  omega
theorem sumL_row (xss : List (List Int)) : ∀ x ∈ xss, x.length ≤ sumL xss := fun x hx => by
  obtain ⟨k, hk, rfl⟩ := List.getElem_of_mem hx
  have h1 := sumL_snoc xss k hk
  have h2 := sumL_le xss (k + 1)
  omega
theorem szIntS_u (n : Nat) (a : Option Addr) (cap : Nat) (k r : Int) (hn : n ≤ 9223372036854775807) (hk : k ≤ 1048576) (hk2 : -1 ≤ k) (h1 : k - n < 0 → r = -1) (h2 : 0 ≤ k - n → r = k - n) (w : World) :
    Calls Tryd.prog 78 #[.slice a n cap, .int .i64 k] w fun e w' => e = .returned (.int .i64 r) ∧ w = w' := by
  by_cases h : k - n < 0
  · obtain rfl := h1 h
    go_enter Tryd.func78, Tryd.ntmps78
    go_wp2
    go_ret
    exact ⟨rfl, rfl⟩
  · obtain rfl := h2 (by omega)
    go_enter Tryd.func78, Tryd.ntmps78
    go_wp2
    go_ret
    exact ⟨rfl, rfl⟩
set_option maxHeartbeats 1600000 in
theorem szIntSS_any (lo hi : Nat) (v : Value) (xss : List (List Int)) (r : Int) (w : World) (hx : SlLL lo hi w v xss) (h1 : 1048576 < xss.length + sumL xss → r = -1) (h2 : xss.length + sumL xss ≤ 1048576 → r = 1048576 - ((xss.length + sumL xss : Nat) : Int)) :
    Calls Tryd.prog 55 #[v, .int .i64 1048576] w fun e w' => e = .returned (.int .i64 r) ∧ w = w' := by
  have HX := Lib.hid hx
  obtain ⟨a, cap, rfl, hcap, hcm⟩ := hx.shape
  unfold maxLen at hcm
  have H1 := Lib.hid h1
  have H2 := Lib.hid h2
  clear hx h1 h2
  by_cases hl : xss.length ≤ 1048576
  · obtain ⟨L, hL⟩ : ∃ L, L = 1048576 - xss.length := ⟨_, rfl⟩
    have hL1 : ((1048576 : Int) - xss.length) = L := by omega
    have hLl : L ≤ 1048576 := by omega
    have HLE := Lib.hid hL
    clear hL
    go_enter Tryd.func55, Tryd.ntmps55
    go_wp2
    go_loop [1, 5] (fun lv kv => ∃ k : Nat, kv = .int .i64 k ∧ k ≤ xss.length ∧ sumL (xss.take k) ≤ L ∧ lv = .int .i64 ((L : Int) - sumL (xss.take k))) (fun _ kv => xss.length - (intOf kv).toNat)
    case atStart => exact ⟨0, rfl, by omega, by simp [sumL], by simp [sumL]⟩
    case round =>
      obtain ⟨k, rfl, hk, hs, rfl⟩ := hrel
      by_cases hlt : k < xss.length
      · obtain ⟨b, off, u, rfl, _, _, _, hcell, hu⟩ := HX.out.get k hlt
        obtain ⟨ua, uc, rfl, huc, hum⟩ := hu.shape
        unfold maxLen at hum
        have hsn := sumL_snoc xss k hlt
        have HLE2 := Lib.hid (sumL_le xss (k + 1))
        obtain ⟨n, hn⟩ : ∃ n, n = xss[k].length := ⟨_, rfl⟩
        rw [← hn] at hcell hsn huc
        have HSN := Lib.hid hsn
        obtain ⟨s, hs'⟩ : ∃ s, s = sumL (xss.take k) := ⟨_, rfl⟩
        rw [← hs'] at hs HSN ⊢
        clear hsn hu hn hs'
        by_cases hneg : L < s + n
        · have HR : Hid (r = -1) := Lib.hid (H1.out (by have := HLE2.out; have := HSN.out; have := HLE.out; omega))
          have HC := Lib.hid fun wx => szIntS_u n ua uc ((L : Int) - s) (-1) (by omega) (by omega) (by omega) (by omega) (by omega) wx
          go_wp2_with fail
          refine (HC.out _).mono ?_
          rintro e _ ⟨rfl, rfl⟩
          go_wp2
          go_ret
          exact ⟨ret_int HR.out.symm, rfl⟩
        · obtain ⟨z, hz⟩ : ∃ z : Nat, (z : Int) = (L : Int) - s - n := ⟨L - s - n, by omega⟩
          have HC := Lib.hid fun wx => szIntS_u n ua uc ((L : Int) - s) (z : Int) (by omega) (by omega) (by omega) (by omega) (by omega) wx
          have HZ := Lib.hid hz
          have hz0 : ¬ (z : Int) < 0 := by omega
          clear hz
          go_wp2_with fail
          refine (HC.out _).mono ?_
          rintro e _ ⟨rfl, rfl⟩
          go_wp2
          go_round
          case rel => exact ⟨k + 1, by go_num, by omega, by rw [HSN.out]; omega, by rw [HZ.out, HSN.out]; push_cast; congr 1; omega⟩
          case measure => simp [intOf]; omega
      · obtain rfl : k = xss.length := by omega
        have HR : Hid (r = (L : Int) - sumL xss) := Lib.hid (by
          rw [List.take_length] at hs
          have := HLE.out
          rw [H2.out (by omega)]
          push_cast; omega)
        go_wp2
        go_ret
        exact ⟨ret_int HR.out.symm, rfl⟩
  · have HR : Hid (r = -1) := Lib.hid (H1.out (by omega))
    have hneg : (1048576 : Int) - xss.length < 0 := by omega
    go_enter Tryd.func55, Tryd.ntmps55
    go_wp2
    go_ret
    exact ⟨ret_int HR.out.symm, rfl⟩
set_option maxHeartbeats 1600000 in
theorem szModel_any (lo hi : Nat) (M : Mo) (va : Value) (r : Int) (w : World) (hx : SlLL lo hi w va M.acts) (hh : hi ≤ w.heap.size) (h1 : 1048576 < M.acts.length + sumL M.acts → r = -1) (h2 : M.acts.length + sumL M.acts ≤ 1048576 → r = 1048576 - ((M.acts.length + sumL M.acts : Nat) : Int)) :
    Calls Tryd.prog 19 #[aggMo M va, .int .i64 1048576] w fun e w' => e = .returned (.int .i64 r) ∧ Below w.heap.size w w' := by
  obtain ⟨sa, sc, rfl, _, _⟩ := hx.shape
  obtain ⟨n, P, Q, acts⟩ := M
  simp only at hx h1 h2 ⊢
  obtain ⟨w0, hw0⟩ : ∃ w0, w0 = w.alloc (.cells #[.int .i64 n, .int .i64 P, .int .i64 Q, .slice sa acts.length sc] 42) := ⟨_, rfl⟩
  obtain ⟨hb0, KB_, hs0⟩ := box_facts3 hw0
  have HC := Lib.hid (szIntSS_any lo hi _ acts r w0 (hx.below hb0 hh) h1 h2)
  have HB := Lib.hid hb0
  have k3 := KB_.cell 3
  have HW := Lib.hid hw0
  have hcase : r < 0 ∧ r = -1 ∨ ¬ r < 0 := by omega
  clear hx h1 h2 hb0 KB_ hw0
  rcases hcase with ⟨hneg, rfl⟩ | hneg
  · go_enter Tryd.func19, Tryd.ntmps19
    go_upto_region 1 with (rw [← HW.out])
    try rw [← HW.out]
    go_wp2_with fail
    refine HC.out.mono ?_
    rintro e _ ⟨rfl, rfl⟩
    go_wp2
    go_ret
    exact ⟨rfl, HB.out⟩
  · go_enter Tryd.func19, Tryd.ntmps19
    go_upto_region 1 with (rw [← HW.out])
    try rw [← HW.out]
    go_wp2_with fail
    refine HC.out.mono ?_
    rintro e _ ⟨rfl, rfl⟩
    go_wp2
    go_ret
    exact ⟨rfl, HB.out⟩
/-- A row of rows on its way: the first k are copied. -/
def CopyTo (w wr : World) (xss : List (List Int)) (k : Nat) (us : List Value) : Prop :=
  wr.ownsRow w.heap.size 43 1 (.slice (some ⟨w.heap.size, 0, none⟩) xss.length xss.length) xss.length us ∧ Below w.heap.size w wr ∧ us.length = xss.length ∧ ∀ j (h1 : j < us.length) (h2 : j < xss.length), j < k → SlI (w.heap.size + 1) wr.heap.size wr us[j] xss[j]
theorem CopyTo.next {w wr w1 : World} {xss : List (List Int)} {k : Nat} {us : List Value} {u : Value} (h : CopyTo w wr xss k us) (hk : k < xss.length) (hb : Below wr.heap.size wr w1) (hu : SlI wr.heap.size w1.heap.size w1 u xss[k]) (hg : w.heap.size < wr.heap.size) :
    CopyTo w (w1.setCell ⟨w.heap.size, k, none⟩ u) xss (k + 1) (us.set k u) := by
  obtain ⟨h1, h2, h3, h4⟩ := h
  have hz := hb.size
  have ho := Outside.put w.heap.size k w1 u
  have hzs := ho.size
  refine ⟨((Own.below (hi := wr.heap.size) ⟨h1, fun g hg' => by simp [Value.ownBlock] at hg'; omega⟩ hb (Nat.le_refl _)).1.stored k u).1, Below.outside (h2.trans (hb.mono h2.size)) ho (Nat.le_refl _) (by have := h2.size; omega), by simpa using h3, fun j j1 j2 hj => ?_⟩
  rw [List.getElem_set]
  split
  · rename_i e
    subst e
    exact (hu.outside ho (.inr (by omega))).wide (by omega) hzs
  · have := h4 j (by simpa using j1) j2 (by omega)
    exact ((this.below hb (Nat.le_refl _)).outside ho (.inr (Nat.le_refl _))).wide (Nat.le_refl _) (by omega)
theorem CopyTo.done {w wr : World} {xss : List (List Int)} {us : List Value} (h : CopyTo w wr xss xss.length us) : SlLL w.heap.size wr.heap.size wr (.slice (some ⟨w.heap.size, 0, none⟩) xss.length xss.length) xss := by
  obtain ⟨h1, h2, h3, h4⟩ := h
  obtain ⟨a, cap, e, e1, e2, _, _, hc⟩ := (Own.of_row h1).sl
  injection e with ea eb ec
  subst ea ec
  refine ⟨_, _, rfl, Nat.le_refl _, e2, fun i hi => ?_⟩
  obtain ⟨b, off, f1, f2, f3, f4, f5⟩ := hc i (by omega)
  exact ⟨b, off, us[i], f1, f2, f3, f4, by rw [f5, List.getElem?_eq_getElem], (h4 i (by omega) hi hi).wide (by omega) (Nat.le_refl _)⟩
set_option maxRecDepth 100000 in
set_option maxHeartbeats 1600000 in
theorem toIntSS_any (lo hi : Nat) (v : Value) (xss : List (List Int)) (w : World) (hx : SlLL lo hi w v xss) (hh : hi ≤ w.heap.size) (hm : xss.length ≤ 1048576) (hm2 : ∀ x ∈ xss, x.length ≤ 1048576) :
    Calls Tryd.prog 58 #[v] w (RetV fun u w' => Below w.heap.size w w' ∧ SlLL w.heap.size w'.heap.size w' u xss) := by
  obtain ⟨i0, hi0, hz0, hz1, hz2⟩ := info_parts info_ints
  have HX := Lib.hid hx
  have HM := Lib.hid hm2
  obtain ⟨a, cap, rfl, hcap, hcm⟩ := hx.shape
  clear hx hm2 hcm
  go_enter Tryd.func58, Tryd.ntmps58
  go_wp2_with ((at_make; refine wpList_make_full _ rfl _ _ 23 rfl w.heap.size 43 i0 (.slice none 0 0) 1 Tryd.underlying23 hi0 hz0 hz1 .i64 .i64 xss.length xss.length xss.length rfl rfl rfl rfl ?c1 ?c2 ?c3 ?c4))
  case c1 => rw [hz2]; omega
  case c2 => simp [maxLen]; omega
  case c3 => exact Nat.le_refl _
  case c4 =>
    intro w1 hown hg
    have hb1 : Below w.heap.size w w1 := (Below.refl _ _).grown hg (Nat.le_refl _) (by simp)
    have hs1 : w.heap.size < w1.heap.size := (hown.lt w.heap.size (by simp [Value.ownBlock])).2
    rw [toList_madeCells_one] at hown
    have HC0 : Hid (CopyTo w w1 xss 0 (List.replicate xss.length (.slice none 0 0))) := Lib.hid ⟨by simpa using hown, hb1, by simp, fun j _ _ h => by omega⟩
    clear hg hi0 hz0 hz1 hz2 hown hb1
    go_wp2
    go_loopw [4] (fun i wr => ∃ (k : Nat) (us : List Value), k ≤ xss.length ∧ i = .int .i64 k ∧ w1.heap.size ≤ wr.heap.size ∧ Hid (CopyTo w wr xss k us)) (fun i _ => xss.length - (intOf i).toNat)
    case atStart => exact ⟨0, _, by omega, rfl, Nat.le_refl _, HC0⟩
    case round =>
      obtain ⟨k, us, hk, rfl, hzr, HR⟩ := hrel
      clear HC0
      by_cases hlt : k < xss.length
      · obtain ⟨b, off, u, rfl, _, _, _, hcell, hu⟩ := (HX.out.below HR.out.2.1 hh).get k hlt
        have hul := HM.out _ (List.getElem_mem hlt)
        have HTC := Lib.hid (toIntS_any _ _ u xss[k] wr hu hul)
        obtain ⟨ua, uc, rfl, _, _⟩ := hu.shape
        clear hu hul
        go_wp2_with fail
        refine HTC.out.mono ?_
        rintro e w2 ⟨v2, rfl, hb2, ho2⟩
        have hz2 := hb2.size
        have HN := Lib.hid (HR.out.next hlt hb2 ho2.sl (by omega))
        have hown := (Own.below (hi := wr.heap.size) ⟨HR.out.1, fun g hg' => by simp [Value.ownBlock] at hg'; omega⟩ hb2 (Nat.le_refl _)).1
        have hul := HR.out.2.2.1
        obtain ⟨y0, hw0⟩ : ∃ y, w2.cell? ⟨w.heap.size, k, none⟩ = some y := ⟨_, by rw [hown.cellAt _ (by omega)]; exact List.getElem?_eq_getElem (by omega)⟩
        have hf0 := hown.frozenAt k
        obtain ⟨va, vc, rfl, _, _⟩ := ho2.sl.shape
        have hsz : (w2.setCell ⟨w.heap.size, k, none⟩ (.slice va xss[k].length vc)).heap.size = w2.heap.size := by simp [World.setCell]
        have hz3 : w1.heap.size ≤ (w2.setCell ⟨w.heap.size, k, none⟩ (.slice va xss[k].length vc)).heap.size := by omega
        clear hb2 ho2 hcell hown hul HTC hsz
        go_wp2
        go_roundw
        case rel => exact ⟨k + 1, _, by omega, by go_num, hz3, HN⟩
        case measure => simp [intOf]; omega
      · obtain rfl : k = xss.length := by omega
        have HF := Lib.hid (And.intro HR.out.2.1 HR.out.done)
        go_wp2
        go_ret
        exact RetV.mk _ rfl HF.out
set_option maxRecDepth 100000 in
set_option maxHeartbeats 1600000 in
theorem eqIntSS_same (lo hi lo' hi' : Nat) (v v' : Value) (xss : List (List Int)) (w : World) (hx : SlLL lo hi w v xss) (hy : SlLL lo' hi' w v' xss) (hh : hi ≤ w.heap.size) (hh' : hi' ≤ w.heap.size) (hm2 : ∀ x ∈ xss, x.length ≤ 1048576) (hm : xss.length ≤ 1048576) :
    Calls Tryd.prog 59 #[v, v'] w fun e w' => e = .returned (.bool true) ∧ Below w.heap.size w w' := by
  have HX := Lib.hid hx
  have HY := Lib.hid hy
  have HM := Lib.hid hm2
  obtain ⟨a, cap, rfl, _, _⟩ := hx.shape
  obtain ⟨a', cap', rfl, _, _⟩ := hy.shape
  clear hx hy hm2
  have hl1 : ((xss.length : Int) != xss.length) = false := by simp
  go_enter Tryd.func59, Tryd.ntmps59
  go_wp2
  go_loopw [5] (fun i wr => ∃ k : Nat, k ≤ xss.length ∧ i = .int .i64 k ∧ Below w.heap.size w wr) (fun i _ => xss.length - (intOf i).toNat)
  case atStart => exact ⟨0, by omega, rfl, Below.refl _ _⟩
  case round =>
    obtain ⟨k, hk, rfl, hb⟩ := hrel
    by_cases hlt : k < xss.length
    · obtain ⟨b, off, u, rfl, _, _, _, hcell, hu⟩ := (HX.out.below hb hh).get k hlt
      obtain ⟨b', off', u', rfl, _, _, _, hcell', hu'⟩ := (HY.out.below hb hh').get k hlt
      have HB := Lib.hid hb
      have hsz := hb.size
      have HEC : Hid (Calls Tryd.prog 25 #[u, u'] wr.drew fun e w' => e = .returned (.bool true) ∧ Below wr.heap.size wr w') := Lib.hid ((eqIntS_any _ _ _ _ u u' xss[k] xss[k] wr.drew (hu.below (Below.drew (Below.refl wr.heap.size wr)) (by omega)) (hu'.below (Below.drew (Below.refl wr.heap.size wr)) (by omega)) (HM.out _ (List.getElem_mem hlt))).mono (by
        rintro e w' ⟨rfl, m, rfl⟩
        exact ⟨by simp [eqL], below_drewN (Below.drew (Below.refl _ _)) m⟩))
      obtain ⟨ua, uc, rfl, _, _⟩ := hu.shape
      obtain ⟨ua', uc', rfl, _, _⟩ := hu'.shape
      have c1 : wr.drew.cell? ⟨b, off + k, none⟩ = _ := hcell
      have c2 : wr.drew.cell? ⟨b', off' + k, none⟩ = _ := hcell'
      obtain ⟨n, hn⟩ : ∃ n, n = xss[k].length := ⟨_, rfl⟩
      rw [← hn] at hcell hcell' c1 c2 HEC
      clear hb hu hu' hn
      go_wp2
      go_region_with (go_at_call 25; refine HEC.out.mono ?_; rintro e1 w1 ⟨rfl, hb1⟩)
      all_goals (
        go_wp2
        go_roundw
        case rel => exact ⟨k + 1, by omega, by go_num, HB.out.trans (hb1.mono hsz)⟩
        case measure => simp [intOf]; omega)
    · go_wp2
      go_ret
      exact ⟨rfl, hb⟩
set_option maxRecDepth 100000 in
set_option maxHeartbeats 1600000 in
theorem eqModel_same (lo hi lo' hi' : Nat) (M : Mo) (va vb : Value) (w : World) (hx : SlLL lo hi w va M.acts) (hy : SlLL lo' hi' w vb M.acts) (hh : hi ≤ w.heap.size) (hh' : hi' ≤ w.heap.size) (hm2 : ∀ x ∈ M.acts, x.length ≤ 1048576) (hm : M.acts.length ≤ 1048576) :
    Calls Tryd.prog 24 #[aggMo M va, aggMo M vb] w fun e w' => e = .returned (.bool true) ∧ Below w.heap.size w w' := by
  obtain ⟨n, P, Q, acts⟩ := M
  simp only at hx hy hm2 hm ⊢
  obtain ⟨sa, sc, rfl, _, _⟩ := hx.shape
  obtain ⟨ta, tc, rfl, _, _⟩ := hy.shape
  obtain ⟨w0, hw0⟩ : ∃ w0, w0 = (w.alloc (.cells #[.int .i64 n, .int .i64 P, .int .i64 Q, .slice sa acts.length sc] 25)).alloc (.cells #[.int .i64 n, .int .i64 P, .int .i64 Q, .slice ta acts.length tc] 25) := ⟨_, rfl⟩
  have hb0 : Below w.heap.size w w0 := by rw [hw0]; exact ((Below.refl _ _).alloc (Nat.le_refl _) _).alloc (by simp) _
  have K1 : Blk w.heap.size (.cells #[.int .i64 n, .int .i64 P, .int .i64 Q, .slice sa acts.length sc] 25) w0 := by
    rw [hw0]; exact (Blk.new w _).below (al_below _ _) (by simp)
  have K2 : Blk (w.heap.size + 1) (.cells #[.int .i64 n, .int .i64 P, .int .i64 Q, .slice ta acts.length tc] 25) w0 := by
    have h := Blk.new (w.alloc (.cells #[.int .i64 n, .int .i64 P, .int .i64 Q, .slice sa acts.length sc] 25)) (.cells #[.int .i64 n, .int .i64 P, .int .i64 Q, .slice ta acts.length tc] 25)
    rw [alloc_size] at h
    rw [hw0]; exact h
  have HC := Lib.hid (eqIntSS_same _ _ _ _ _ _ acts w0 (hx.below hb0 hh) (hy.below hb0 hh') (by have := hb0.size; omega) (by have := hb0.size; omega) hm2 hm)
  have HB := Lib.hid hb0
  have k0 := K1.cell 0
  have k1 := K1.cell 1
  have k2 := K1.cell 2
  have k3 := K1.cell 3
  have l0 := K2.cell 0
  have l1 := K2.cell 1
  have l2 := K2.cell 2
  have l3 := K2.cell 3
  have d0 : (n != n) = false := by simp
  have d1 : (P != P) = false := by simp
  have d2 : (Q != Q) = false := by simp
  have HW := Lib.hid hw0
  have hsz := HB.out.size
  clear hx hy hb0 K1 K2 hw0 hm2
  go_enter Tryd.func24, Tryd.ntmps24
  go_upto_region 1 with (rw [← HW.out])
  try rw [← HW.out]
  go_wp2_with fail
  refine HC.out.mono ?_
  rintro e w1 ⟨rfl, hb1⟩
  have HF := Lib.hid (HB.out.trans (hb1.mono hsz))
  clear hb1 HC
  go_wp2
  go_ret
  exact ⟨rfl, HF.out⟩
set_option maxRecDepth 100000 in
set_option maxHeartbeats 3200000 in
theorem toModel_any (lo hi : Nat) (M : Mo) (va : Value) (w : World) (hx : SlLL lo hi w va M.acts) (hh : hi ≤ w.heap.size) (hm : M.acts.length ≤ 1048576) (hm2 : ∀ x ∈ M.acts, x.length ≤ 1048576) :
    Calls Tryd.prog 21 #[aggMo M va] w fun e w' => ∃ vb, e = .returned (aggMo M vb) ∧ Below w.heap.size w w' ∧ SlLL w.heap.size w'.heap.size w' vb M.acts := by
  obtain ⟨n, P, Q, acts⟩ := M
  simp only at hx hm hm2 ⊢
  obtain ⟨sa, sc, rfl, _, _⟩ := hx.shape
  obtain ⟨w0, hw0⟩ : ∃ w0, w0 = ((w.alloc (.cells #[.int .i64 n, .int .i64 P, .int .i64 Q, .slice sa acts.length sc] 42)).alloc (.cells #[.int .i64 0, .int .i64 0, .int .i64 0, .slice none 0 0] 25)).alloc (.cells #[.int .i64 0, .int .i64 0, .int .i64 0, .slice none 0 0] 25) := ⟨_, rfl⟩
  have hb0 : Below w.heap.size w w0 := by rw [hw0]; exact (((Below.refl _ _).alloc (Nat.le_refl _) _).alloc (by simp) _).alloc (by simp; omega) _
  have hs0 : w.heap.size + 3 ≤ w0.heap.size := by rw [hw0]; simp
  have K1 : Hid (Blk w.heap.size (.cells #[.int .i64 n, .int .i64 P, .int .i64 Q, .slice sa acts.length sc] 42) w0) := by
    rw [hw0]
    exact Lib.hid ((Blk.new w _).below (((Below.refl (w.alloc _).heap.size _).alloc (Nat.le_refl _) _).alloc (by simp) _) (by simp))
  have K2 : Hid (Blk (w.heap.size + 1) (.cells #[.int .i64 0, .int .i64 0, .int .i64 0, .slice none 0 0] 25) w0) := by
    have h := (Blk.new (w.alloc (.cells #[.int .i64 n, .int .i64 P, .int .i64 Q, .slice sa acts.length sc] 42)) (.cells #[.int .i64 0, .int .i64 0, .int .i64 0, .slice none 0 0] 25)).below ((Below.refl _ _).alloc (Nat.le_refl _) (.cells #[.int .i64 0, .int .i64 0, .int .i64 0, .slice none 0 0] 25)) (by simp)
    rw [alloc_size] at h
    rw [hw0]; exact Lib.hid h
  have K3 : Hid (Blk (w.heap.size + 2) (.cells #[.int .i64 0, .int .i64 0, .int .i64 0, .slice none 0 0] 25) w0) := by
    have h := Blk.new ((w.alloc (.cells #[.int .i64 n, .int .i64 P, .int .i64 Q, .slice sa acts.length sc] 42)).alloc (.cells #[.int .i64 0, .int .i64 0, .int .i64 0, .slice none 0 0] 25)) (.cells #[.int .i64 0, .int .i64 0, .int .i64 0, .slice none 0 0] 25)
    rw [alloc_size, alloc_size] at h
    rw [hw0]; exact Lib.hid h
  have HX := Lib.hid (hx.below hb0 hh)
  have HB := Lib.hid hb0
  have HW0 := Lib.hid hw0
  obtain ⟨g, hg⟩ : ∃ g, g = w.heap.size := ⟨_, rfl⟩
  have HG := Lib.hid hg
  have hgg : w.heap.size ≤ g := by omega
  have hgg2 : g ≤ w.heap.size := by omega
  rw [← hg] at K1 K2 K3
  -- the three numbers are stored ahead of the call
  obtain ⟨w1, hw1⟩ : ∃ w1, w1 = (((w0.setCell ⟨g + 2, 0, none⟩ (.int .i64 n)).setCell ⟨g + 2, 1, none⟩ (.int .i64 P)).setCell ⟨g + 2, 2, none⟩ (.int .i64 Q)) := ⟨_, rfl⟩
  have HO1 : Hid (Outside (g + 2) (g + 2 + 1) w0 w1) := by
    rw [hw1]
    exact Lib.hid ((((Outside.put (g + 2) 0 w0 (.int .i64 n)).trans (Outside.put (g + 2) 1 _ (.int .i64 P)))).trans (Outside.put (g + 2) 2 _ (.int .i64 Q)))
  have K3' : Hid (Blk (g + 2) (.cells #[.int .i64 n, .int .i64 P, .int .i64 Q, .slice none 0 0] 25) w1) := by
    rw [hw1]
    exact Lib.hid (((K3.out.put 0 (.int .i64 n)).put 1 (.int .i64 P)).put 2 (.int .i64 Q))
  have hs1 := HO1.out.size
  have p0 := K1.out.cell 0
  have p1 := K1.out.cell 1
  have p2 := K1.out.cell 2
  have p3 := K1.out.cell 3
  have x0 := K3.out.cell 0
  have x1 := K3.out.cell 1
  have x2 := K3.out.cell 2
  have f0 := K3.out.free 0
  have f1 := K3.out.free 1
  have f2 := K3.out.free 2
  have HCA := Lib.hid (toIntSS_any lo hi _ acts w1 (HX.out.outside HO1.out (.inl (by omega))) (by omega) hm hm2)
  have HW1 := Lib.hid hw1
  clear hx hb0 hw0 hw1 hm2 hg
  go_enter Tryd.func21, Tryd.ntmps21
  go_upto_region 2 with (rw [← HW0.out])
  try rw [← HW0.out]
  rw [← HG.out]
  go_upto_region 5 with fail
  rw [← HW1.out]
  have q3 := (K1.out.outside HO1.out (.inl (by omega))).cell 3
  clear p0 p1 p2 p3 x0 x1 x2 f0 f1 f2
  go_wp2_with fail
  refine HCA.out.mono ?_
  rintro e w2 ⟨vb, rfl, hb2, hsl⟩
  have hs2 := hb2.size
  obtain ⟨ba, bc, rfl, _, _⟩ := hsl.shape
  have K3a := K3'.out.below hb2 K3'.out.lt
  have K2a := Lib.hid (((K2.out.outside HO1.out (.inl (by omega))).below hb2 (by omega)).outside (Outside.put (g + 2) 3 w2 (.slice ba acts.length bc)) (.inl (by omega)))
  have z3 := K3a.cell 3
  have fz := K3a.free 3
  have HK3 := Lib.hid (K3a.put 3 (.slice ba acts.length bc))
  have HO3 := Lib.hid (Outside.put (g + 2) 3 w2 (.slice ba acts.length bc))
  obtain ⟨w3, hw3⟩ : ∃ w3, w3 = w2.setCell ⟨g + 2, 3, none⟩ (.slice ba acts.length bc) := ⟨_, rfl⟩
  rw [← hw3] at K2a HK3 HO3
  have hs3 := HO3.out.size
  have HS3 := Lib.hid (hsl.outside HO3.out (.inr (by omega)))
  have HB3 := Lib.hid (Below.outside (Below.outside HB.out HO1.out (by omega) (by omega) |>.trans (hb2.mono (by omega))) HO3.out (by omega) (by omega))
  have m0 := HK3.out.cell 0
  have m1 := HK3.out.cell 1
  have m2 := HK3.out.cell 2
  have m3 := HK3.out.cell 3
  have r0 := K2a.out.cell 0
  have r1 := K2a.out.cell 1
  have r2 := K2a.out.cell 2
  have r3 := K2a.out.cell 3
  have g0 := K2a.out.free 0
  have g1 := K2a.out.free 1
  have g2 := K2a.out.free 2
  have g3 := K2a.out.free 3
  obtain ⟨wz, hwz⟩ : ∃ wz, wz = (((w3.setCell ⟨g + 1, 0, none⟩ (.int .i64 n)).setCell ⟨g + 1, 1, none⟩ (.int .i64 P)).setCell ⟨g + 1, 2, none⟩ (.int .i64 Q)).setCell ⟨g + 1, 3, none⟩ (.slice ba acts.length bc) := ⟨_, rfl⟩
  have KZ := K2a.out.set4 (.int .i64 n) (.int .i64 P) (.int .i64 Q) (.slice ba acts.length bc)
  have hO := Outside.set4 (g + 1) w3 (.int .i64 n) (.int .i64 P) (.int .i64 Q) (.slice ba acts.length bc)
  rw [← hwz] at KZ hO
  have hsz := hO.size
  have HZ := Lib.hid (Below.outside HB3.out hO (by omega) (by omega))
  have HSZ := Lib.hid (HS3.out.outside hO (.inr (by omega)))
  have z0' := KZ.cell 0
  have z1' := KZ.cell 1
  have z2' := KZ.cell 2
  have z3' := KZ.cell 3
  have HW3 := Lib.hid hw3
  clear KZ hO hb2 hsl K3a hw3 q3
  go_wp2_with (rw [← HW3.out])
  simp only [← hwz]
  clear hwz
  refine bodyPost_ret (v := .agg #[.int .i64 n, .int .i64 P, .int .i64 Q, .slice ba acts.length bc]) (by simp [results, Tryd.results21, go_sem, z0', z1', z2', z3']) rfl ⟨_, rfl, HZ.out, ?_⟩
  exact HSZ.out.wide (by omega) (by omega)
end Go.Proofs.YtoondakdjhhehaaDoor
