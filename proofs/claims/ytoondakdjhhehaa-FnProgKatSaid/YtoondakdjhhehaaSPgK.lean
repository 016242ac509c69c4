/-
  Texts of walks and plain lemmas for this seat; no condition.
-/
import Derived.Test.YtoondakdjhhehaaGZE
import Derived.Test.YtoondakdjhhehaaSCode
import Derived.Test.YtoondakdjhhehaaSProg
import Derived.Test.YtoondakdjhhehaaGA
import Derived.Test.YtoondakdjhhehaaGC
namespace Go.Proofs.Ytoondakdjhhehaa
open Go.RowKit
set_option linter.unusedVariables false

theorem specNot_any (t : Int) (w : World) (h : inB t 0 15 = true) : Calls Try.prog 33 #[.int .i64 t] w fun e w' => e = .returned (.int .i64 (15 - t)) ∧ w = w' := by
  have h2 : 0 ≤ t ∧ t ≤ 15 := by simpa [inB] using h
  obtain ⟨h3, h4⟩ := h2
  go_enter Try.func33, Try.ntmps33
  go_wp2_with (go_at_call 41; refine (specTestValid_any _ _).mono ?_; rintro e w' ⟨rfl, rfl⟩)
  go_ret
  exact ⟨rfl, rfl⟩
/-- What l8Kat does with a program. -/
def KatC (T : PT) : Prop := ∀ (lo hi : Nat) (v : Value) (w : World), SlI lo hi w v T.post → hi ≤ w.heap.size → T.post.length ≤ 1000 →
  Calls Try.prog 17 #[v] w (RetV fun u w' => OwnI w.heap.size w'.heap.size 3 w' u T.kat.post ∧ Below w.heap.size w w')
theorem kat_len6 (T : PT) : T.kat.post.length ≤ 6 * T.post.length := by
  rw [KT.post_length, PT.post_length]; exact kat_size T

set_option maxRecDepth 100000 in
theorem katC_one (x : Int) (hx : inB x 15 18 = true) : KatC (.one x) := by
  intro lo hi v w h hhi hm
  have hx1 : 15 ≤ x ∧ x ≤ 18 := by simp only [inB, Bool.and_eq_true, decide_eq_true_eq] at hx; exact hx
  obtain ⟨b, off, cap, rfl, hc1, hc2, hcell⟩ := last_cell (xs := []) (s := x) h
  simp only [List.length_nil, Nat.zero_add, Nat.add_zero] at hc1 hcell ⊢
  obtain ⟨hxa, hxb⟩ := hx1
  have HZ : Hid (OwnI w.heap.size (w.alloc (.cells #[.int .i64 x] 3)).heap.size 3 (w.alloc (.cells #[.int .i64 x] 3)) (.slice (some ⟨w.heap.size, 0, none⟩) 1 1) [x] ∧ Below w.heap.size w (w.alloc (.cells #[.int .i64 x] 3))) := Lib.hid ⟨(Own.lit 1 3 w (ints [x]) 1 (by omega) rfl).wide2 (Nat.le_refl _) (by simp), al_below _ _⟩
  clear h hx
  go_enter Try.func17, Try.ntmps17
  go_wp2
  go_ret
  exact RetV.mk _ rfl HZ.out

set_option maxRecDepth 100000 in
set_option maxHeartbeats 3200000 in
theorem katC_wh (t : Int) (a : PT) (ht : inB t 0 15 = true) (IH : KatC a) : KatC (.wh t a) := by
  intro lo hi v w h hhi hm
  have ht1 : 0 ≤ t ∧ t ≤ 15 := by simp only [inB, Bool.and_eq_true, decide_eq_true_eq] at ht; exact ht
  obtain ⟨ht0, ht15⟩ := ht1
  have HTN := Lib.hid fun w => specNot_any t w ht
  change SlI lo hi w v (a.post ++ [200 + t]) at h
  obtain ⟨b, off, cap, rfl, hc1, hc2, hcell⟩ := last_cell h
  unfold maxLen at hc2
  have hsub := h.sub 0 a.post.length (by omega) (by simp)
  simp only [Nat.add_zero, Nat.sub_zero, List.drop_zero, List.take_left] at hsub
  have hml : a.post.length + 1 ≤ 1000 := by simpa [PT.post] using hm
  have hkl := kat_len6 a
  obtain ⟨w0, hw0⟩ : ∃ w0, w0 = w.alloc (.cells #[.int .i64 t] 3) := ⟨_, rfl⟩
  have hb0 : Below w.heap.size w w0 := by rw [hw0]; exact al_below _ _
  have hs0 : w.heap.size + 1 ≤ w0.heap.size := by rw [hw0]; simp
  have HL0 : Hid (SlI w.heap.size (w.heap.size + 1) w0 (.slice (some ⟨w.heap.size, 0, none⟩) 1 1) [t]) := Lib.hid (by rw [hw0]; exact lit_sl w t)
  have HIH := Lib.hid (IH lo hi _ w0 (hsub.below hb0 hhi) (by omega) (by omega))
  have HB0 := Lib.hid hb0
  have HW0 := Lib.hid hw0
  have HKP : Hid ((([t] ++ a.kat.post ++ [19]) ++ [21]) ++ [15 - t] ++ [19] = (PT.wh t a).kat.post) := Lib.hid (by simp [PT.kat, KT.post, KT.op])
  obtain ⟨m, hme⟩ : ∃ m, m = a.post.length := ⟨_, rfl⟩
  rw [← hme] at hc1 hcell HIH ⊢ hml hkl
  obtain ⟨ks, hks⟩ : ∃ ks, ks = a.kat.post := ⟨_, rfl⟩
  rw [← hks] at HIH HKP hkl
  have e1 : ((m : Int) + 1 - 1) = m := by omega
  have e2 : (200 + t - 200) = t := by omega
  clear h hsub hm ht hme hks hb0 hw0
  go_enter Try.func17, Try.ntmps17
  go_wp2_with (rw [← HW0.out])
  refine HIH.out.mono ?_
  rintro e w1 ⟨v1, rfl, ho1, hb1⟩
  have hs1 := hb1.size
  obtain ⟨a1, c1, rfl, _, _⟩ := ho1.sl.shape
  have HB1 := Lib.hid (HB0.out.trans (hb1.mono (by omega)))
  have HJ := Lib.hid (l2Join_any _ _ _ _ _ _ [t] ks 19 w1 (HL0.out.below hb1 (by omega)) ho1.sl (by omega) (Nat.le_refl _) (by simp; omega))
  clear HIH ho1 hb1 HB0 HW0
  go_wp2_with fail
  refine HJ.out.mono ?_
  rintro e w2 ⟨v2, rfl, hb2, ho2⟩
  have hs2 := hb2.size
  have hs12 : w.heap.size ≤ w1.heap.size := by omega
  obtain ⟨a2, c2, rfl, _, _⟩ := ho2.sl.shape
  have HB2 := Lib.hid (HB1.out.trans (hb2.mono (by omega)))
  have HO2 := Lib.hid ho2
  obtain ⟨ys, hys⟩ : ∃ ys, ys = [t] ++ ks ++ [19] := ⟨_, rfl⟩
  have hyl : ys.length ≤ 6100 := by rw [hys]; simp; omega
  rw [← hys] at HO2 HKP ⊢
  have hown := HO2.out
  unfold OwnI at hown
  clear HJ ho2 hb2 hys HB1
  go_wp2_with (at_builtin; refine wpList_app_lit _ rfl _ _ 23 rfl 3 (.int .i64 0) 1 8 Try.underlying23 info_int rfl (by decide) (by decide) rfl hown 1 (ints [21]) rfl rfl (ints_one _) rfl (by omega) (by omega) ?_)
  intro v3 w3 h3 ho3 _
  obtain ⟨a3, c3, rfl⟩ := Own.shape h3
  have hs3 := ho3.size
  have HO3 : Hid (SlI w1.heap.size w3.heap.size w3 (.slice a3 (ys.length + 1) c3) (ys ++ [21])) := Lib.hid (OwnI.sl (by unfold OwnI; rw [ints_append, List.length_append]; exact h3))
  have HB3 := Lib.hid (Below.outside HB2.out ho3 hs12 HB2.out.size)
  clear h3 ho3 hown HO2 HB2
  obtain ⟨w4, hw4⟩ : ∃ w4, w4 = w3.alloc (.cells #[.int .i64 (15 - t)] 3) := ⟨_, rfl⟩
  have hb4 : Below w3.heap.size w3 w4 := by rw [hw4]; exact al_below _ _
  have hs4 : w3.heap.size + 1 ≤ w4.heap.size := by rw [hw4]; simp
  have HL4 : Hid (SlI w3.heap.size (w3.heap.size + 1) w4 (.slice (some ⟨w3.heap.size, 0, none⟩) 1 1) [15 - t]) := Lib.hid (by rw [hw4]; exact lit_sl w3 (15 - t))
  have HJ := Lib.hid (l2Join_any _ _ _ _ _ _ (ys ++ [21]) [15 - t] 19 w4 (HO3.out.below hb4 (Nat.le_refl _)) HL4.out (by omega) hs4 (by simp; omega))
  have HB4 := Lib.hid (HB3.out.trans (hb4.mono (by omega)))
  have HW4 := Lib.hid hw4
  have hs44 : w.heap.size ≤ w4.heap.size := by omega
  clear hw4 hb4 HO3 HL4 HB3
  go_wp2_with (first | (go_at_call 33; refine (HTN.out _).mono ?_; rintro e w' ⟨rfl, rfl⟩) | rw [← HW4.out])
  refine HJ.out.mono ?_
  rintro e w5 ⟨v5, rfl, hb5, ho5⟩
  rw [HKP.out] at ho5
  obtain ⟨rs, hrs⟩ : ∃ rs, rs = (PT.wh t a).kat.post := ⟨_, rfl⟩
  rw [← hrs] at ho5
  have HRS := Lib.hid hrs
  obtain ⟨a5, c5, rfl, _, _⟩ := ho5.sl.shape
  clear hrs HKP
  have HF := Lib.hid (And.intro (Own.wide2 ho5 hs44 (Nat.le_refl _)) (HB4.out.trans (hb5.mono hs44)))
  clear ho5 hb5 HJ
  go_wp2
  go_ret
  exact RetV.mk _ rfl (by rw [← HRS.out]; exact HF.out)

set_option maxRecDepth 100000 in
set_option maxHeartbeats 3200000 in
theorem katC_seq (a b : PT) (hob : b.ok = true) (IHA : KatC a) (IHB : KatC b) : KatC (.seq a b) := by
  intro lo hi v w h hhi hm
  change SlI lo hi w v (a.post ++ b.post ++ [30]) at h
  obtain ⟨bb, off, cap, rfl, hc1, hc2, hcell⟩ := last_cell h
  unfold maxLen at hc2
  have hml : a.post.length + b.post.length + 1 ≤ 1000 := by simpa [PT.post, Nat.add_assoc] using hm
  have hxl : (a.post ++ b.post ++ [30]).length ≤ 1048576 := by simp; omega
  have HHV := Lib.hid (l8Halves_any lo hi _ a b (30) w h hxl hob)
  have hpl : (a.post ++ b.post).length = a.post.length + b.post.length := List.length_append
  have hka := kat_len6 a
  have hkb := kat_len6 b
  have HKP : Hid (a.kat.post ++ b.kat.post ++ [19] = (PT.seq a b).kat.post) := Lib.hid (by simp [PT.kat, KT.post, KT.op])
  have HA2 := Lib.hid fun va w' (h1 : SlI lo hi w' va a.post) (h2 : hi ≤ w'.heap.size) => IHA lo hi va w' h1 h2 (by omega)
  have HB2 := Lib.hid fun va w' (h1 : SlI lo hi w' va b.post) (h2 : hi ≤ w'.heap.size) => IHB lo hi va w' h1 h2 (by omega)
  obtain ⟨m, hme⟩ : ∃ m, m = a.post.length + b.post.length := ⟨_, rfl⟩
  rw [hpl, ← hme] at hc1 hcell HHV ⊢
  have hkl : a.kat.post.length + b.kat.post.length ≤ 6000 := by omega
  rw [← hme] at hml
  have e1 : ((m : Int) + 1 - 1) = m := by omega
  clear h hm hxl hpl hme hka hkb IHA IHB
  go_enter Try.func17, Try.ntmps17
  go_wp2_with fail
  refine HHV.out.mono ?_
  rintro e wh ⟨va, vb, rfl, ⟨mh, rfl⟩, ha, hb⟩
  clear HHV
  obtain ⟨aa, ac, rfl, _, _⟩ := Sl.shape ha
  obtain ⟨ab, bc, rfl, _, _⟩ := Sl.shape hb
  have hbw : Below w.heap.size w (w.drewN mh) := below_drewN (Below.refl _ _) _
  have HA : Hid (SlI lo hi (w.drewN mh) (.slice aa a.post.length ac) a.post) := Lib.hid (ha.below hbw hhi)
  have HB : Hid (SlI lo hi (w.drewN mh) (.slice ab b.post.length bc) b.post) := Lib.hid (hb.below hbw hhi)
  obtain ⟨w0, hw0⟩ : ∃ w0, w0 = w.drewN mh := ⟨_, rfl⟩
  rw [← hw0] at hbw HA HB ⊢
  have hs0 := hbw.size
  have HB0 := Lib.hid hbw
  have hhi0 : hi ≤ w0.heap.size := by omega
  have HIA := Lib.hid (HA2.out _ w0 HA.out hhi0)
  obtain ⟨ma, hma⟩ : ∃ ma, ma = a.post.length := ⟨_, rfl⟩
  obtain ⟨mb, hmb⟩ : ∃ mb, mb = b.post.length := ⟨_, rfl⟩
  rw [← hma] at HIA ⊢
  rw [← hmb] at HB ⊢
  clear ha hb hbw hw0 HA hma hmb HA2
  go_wp2_with fail
  refine HIA.out.mono ?_
  rintro e w1 ⟨v1, rfl, ho1, hb1⟩
  have hs1 := hb1.size
  obtain ⟨a1, c1, rfl, _, _⟩ := ho1.sl.shape
  have HO1 := Lib.hid ho1.sl
  have HIB := Lib.hid (HB2.out _ w1 (HB.out.below hb1 (by omega)) (by omega))
  replace HB0 := Lib.hid (HB0.out.trans (hb1.mono (by omega)))
  clear ho1 hb1 HIA HB HB2
  go_wp2_with fail
  refine HIB.out.mono ?_
  rintro e w2 ⟨v2, rfl, ho2, hb2⟩
  have hs2 := hb2.size
  obtain ⟨a2, c2, rfl, _, _⟩ := ho2.sl.shape
  have HJ := Lib.hid (l2Join_any _ _ _ _ _ _ _ _ 19 w2 (HO1.out.below hb2 (Nat.le_refl _)) ho2.sl (by omega) (Nat.le_refl _) (by omega))
  replace HB0 := Lib.hid (HB0.out.trans (hb2.mono (by omega)))
  have hs22 : w.heap.size ≤ w2.heap.size := by omega
  clear ho2 hb2 HIB HO1
  go_wp2_with fail
  refine HJ.out.mono ?_
  rintro e w5 ⟨v5, rfl, hb5, ho5⟩
  rw [HKP.out] at ho5
  obtain ⟨rs, hrs⟩ : ∃ rs, rs = (PT.seq a b).kat.post := ⟨_, rfl⟩
  rw [← hrs] at ho5
  have HRS := Lib.hid hrs
  obtain ⟨a5, c5, rfl, _, _⟩ := ho5.sl.shape
  clear hrs HKP
  have HF := Lib.hid (And.intro (Own.wide2 ho5 hs22 (Nat.le_refl _)) (HB0.out.trans (hb5.mono hs22)))
  clear ho5 hb5 HJ
  go_wp2
  go_ret
  exact RetV.mk _ rfl (by rw [← HRS.out]; exact HF.out)

set_option maxRecDepth 100000 in
set_option maxHeartbeats 3200000 in
theorem katC_ite (t : Int) (a b : PT) (ht : inB t 0 15 = true) (hob : b.ok = true) (IHA : KatC a) (IHB : KatC b) : KatC (.ite t a b) := by
  intro lo hi v w h hhi hm
  have ht1 : 0 ≤ t ∧ t ≤ 15 := by simp only [inB, Bool.and_eq_true, decide_eq_true_eq] at ht; exact ht
  obtain ⟨ht0, ht15⟩ := ht1
  have HTN := Lib.hid fun w => specNot_any t w ht
  change SlI lo hi w v (a.post ++ b.post ++ [100 + t]) at h
  obtain ⟨bb, off, cap, rfl, hc1, hc2, hcell⟩ := last_cell h
  unfold maxLen at hc2
  have hml : a.post.length + b.post.length + 1 ≤ 1000 := by simpa [PT.post, Nat.add_assoc] using hm
  have hxl : (a.post ++ b.post ++ [100 + t]).length ≤ 1048576 := by simp; omega
  have HHV := Lib.hid (l8Halves_any lo hi _ a b (100 + t) w h hxl hob)
  have hpl : (a.post ++ b.post).length = a.post.length + b.post.length := List.length_append
  have hka := kat_len6 a
  have hkb := kat_len6 b
  have HKP : Hid (([t] ++ a.kat.post ++ [19]) ++ ([15 - t] ++ b.kat.post ++ [19]) ++ [20] = (PT.ite t a b).kat.post) := Lib.hid (by simp [PT.kat, KT.post, KT.op])
  have HA2 := Lib.hid fun va w' (h1 : SlI lo hi w' va a.post) (h2 : hi ≤ w'.heap.size) => IHA lo hi va w' h1 h2 (by omega)
  have HB2 := Lib.hid fun va w' (h1 : SlI lo hi w' va b.post) (h2 : hi ≤ w'.heap.size) => IHB lo hi va w' h1 h2 (by omega)
  obtain ⟨m, hme⟩ : ∃ m, m = a.post.length + b.post.length := ⟨_, rfl⟩
  rw [hpl, ← hme] at hc1 hcell HHV ⊢
  have hkl : a.kat.post.length + b.kat.post.length ≤ 6000 := by omega
  rw [← hme] at hml
  have e1 : ((m : Int) + 1 - 1) = m := by omega
  have e2 : (100 + t - 100) = t := by omega
  have d3 : ((100 + t) == 30) = false := by simp; omega
  clear h hm hxl hpl hme hka hkb IHA IHB
  go_enter Try.func17, Try.ntmps17
  go_wp2_with fail
  refine HHV.out.mono ?_
  rintro e wh ⟨va, vb, rfl, ⟨mh, rfl⟩, ha, hb⟩
  clear HHV
  obtain ⟨aa, ac, rfl, _, _⟩ := Sl.shape ha
  obtain ⟨ab, bc, rfl, _, _⟩ := Sl.shape hb
  have hbw : Below w.heap.size w (w.drewN mh) := below_drewN (Below.refl _ _) _
  have HA : Hid (SlI lo hi (w.drewN mh) (.slice aa a.post.length ac) a.post) := Lib.hid (ha.below hbw hhi)
  have HB : Hid (SlI lo hi (w.drewN mh) (.slice ab b.post.length bc) b.post) := Lib.hid (hb.below hbw hhi)
  obtain ⟨wz, hwz⟩ : ∃ wz, wz = w.drewN mh := ⟨_, rfl⟩
  rw [← hwz] at hbw HA HB ⊢
  obtain ⟨w0, hw0⟩ : ∃ w0, w0 = wz.alloc (.cells #[.int .i64 t] 3) := ⟨_, rfl⟩
  have hb0 : Below wz.heap.size wz w0 := by rw [hw0]; exact al_below _ _
  have hs0 : wz.heap.size + 1 ≤ w0.heap.size := by rw [hw0]; simp
  have hsz := hbw.size
  have hhi0 : hi ≤ w0.heap.size := by omega
  have HL0 : Hid (SlI wz.heap.size (wz.heap.size + 1) w0 (.slice (some ⟨wz.heap.size, 0, none⟩) 1 1) [t]) := Lib.hid (by rw [hw0]; exact lit_sl wz t)
  have HIA := Lib.hid (HA2.out _ w0 (HA.out.below hb0 (by omega)) hhi0)
  replace HB := Lib.hid (HB.out.below hb0 (by omega))
  have HB0 := Lib.hid (hbw.trans (hb0.mono hsz))
  have HW0 := Lib.hid hw0
  obtain ⟨ma, hma⟩ : ∃ ma, ma = a.post.length := ⟨_, rfl⟩
  obtain ⟨mb, hmb⟩ : ∃ mb, mb = b.post.length := ⟨_, rfl⟩
  rw [← hma] at HIA ⊢
  rw [← hmb] at HB ⊢
  obtain ⟨ks, hks⟩ : ∃ ks, ks = a.kat.post := ⟨_, rfl⟩
  obtain ⟨ls, hls⟩ : ∃ ls, ls = b.kat.post := ⟨_, rfl⟩
  rw [← hks] at HIA HKP hkl
  rw [← hls] at HB2 HKP hkl
  clear ha hb hbw hw0 HA hma hmb HA2 hwz hb0 hks hls
  go_wp2_with (rw [← HW0.out])
  refine HIA.out.mono ?_
  rintro e w1 ⟨v1, rfl, ho1, hb1⟩
  have hs1 := hb1.size
  obtain ⟨a1, c1, rfl, _, _⟩ := ho1.sl.shape
  have HJ := Lib.hid (l2Join_any _ _ _ _ _ _ [t] ks 19 w1 (HL0.out.below hb1 (by omega)) ho1.sl (by omega) (Nat.le_refl _) (by simp; omega))
  replace HB := Lib.hid (HB.out.below hb1 (by omega))
  replace HB0 := Lib.hid (HB0.out.trans (hb1.mono (by omega)))
  clear ho1 hb1 HIA HL0 HW0
  go_wp2_with fail
  refine HJ.out.mono ?_
  rintro e w2 ⟨v2, rfl, hb2, ho2⟩
  have hs2 := hb2.size
  obtain ⟨a2, c2, rfl, _, _⟩ := ho2.sl.shape
  have HO2 := Lib.hid ho2.sl
  replace HB := Lib.hid (HB.out.below hb2 (by omega))
  replace HB0 := Lib.hid (HB0.out.trans (hb2.mono (by omega)))
  obtain ⟨ys, hys⟩ : ∃ ys, ys = [t] ++ ks ++ [19] := ⟨_, rfl⟩
  have hyl : ys.length ≤ 6100 := by rw [hys]; simp; omega
  rw [← hys] at HO2 HKP ⊢
  clear ho2 hb2 HJ hys
  obtain ⟨w4, hw4⟩ : ∃ w4, w4 = w2.alloc (.cells #[.int .i64 (15 - t)] 3) := ⟨_, rfl⟩
  have hb4 : Below w2.heap.size w2 w4 := by rw [hw4]; exact al_below _ _
  have hs4 : w2.heap.size + 1 ≤ w4.heap.size := by rw [hw4]; simp
  have HL4 : Hid (SlI w2.heap.size (w2.heap.size + 1) w4 (.slice (some ⟨w2.heap.size, 0, none⟩) 1 1) [15 - t]) := Lib.hid (by rw [hw4]; exact lit_sl w2 (15 - t))
  have HIB := Lib.hid (HB2.out _ w4 (HB.out.below hb4 (by omega)) (by omega))
  replace HO2 := Lib.hid (HO2.out.below hb4 (Nat.le_refl _))
  replace HB0 := Lib.hid (HB0.out.trans (hb4.mono (by omega)))
  have HW4 := Lib.hid hw4
  clear hw4 hb4 HB HB2
  go_wp2_with (first | (go_at_call 33; refine (HTN.out _).mono ?_; rintro e w' ⟨rfl, rfl⟩) | rw [← HW4.out])
  refine HIB.out.mono ?_
  rintro e w5 ⟨v5, rfl, ho5, hb5⟩
  have hs5 := hb5.size
  obtain ⟨a5, c5, rfl, _, _⟩ := ho5.sl.shape
  have HJ := Lib.hid (l2Join_any _ _ _ _ _ _ [15 - t] ls 19 w5 (HL4.out.below hb5 (by omega)) ho5.sl (by omega) (Nat.le_refl _) (by simp; omega))
  replace HO2 := Lib.hid (HO2.out.below hb5 (by omega))
  replace HB0 := Lib.hid (HB0.out.trans (hb5.mono (by omega)))
  clear ho5 hb5 HIB HL4 HW4
  go_wp2_with fail
  refine HJ.out.mono ?_
  rintro e w6 ⟨v6, rfl, hb6, ho6⟩
  have hs6 := hb6.size
  obtain ⟨a6, c6, rfl, _, _⟩ := ho6.sl.shape
  have HO6 := Lib.hid ho6.sl
  replace HO2 := Lib.hid (HO2.out.below hb6 (by omega))
  replace HB0 := Lib.hid (HB0.out.trans (hb6.mono (by omega)))
  obtain ⟨zs, hzs⟩ : ∃ zs, zs = [15 - t] ++ ls ++ [19] := ⟨_, rfl⟩
  have hzl : zs.length ≤ 6100 := by rw [hzs]; simp; omega
  rw [← hzs] at HO6 HKP ⊢
  have HJ2 := Lib.hid (l2Join_any _ _ _ _ _ _ ys zs 20 w6 HO2.out HO6.out (by omega) (Nat.le_refl _) (by omega))
  have hs66 : w.heap.size ≤ w6.heap.size := by omega
  clear ho6 hb6 HJ hzs HO2 HO6
  go_wp2_with fail
  refine HJ2.out.mono ?_
  rintro e w7 ⟨v7, rfl, hb7, ho7⟩
  rw [HKP.out] at ho7
  obtain ⟨rs, hrs⟩ : ∃ rs, rs = (PT.ite t a b).kat.post := ⟨_, rfl⟩
  rw [← hrs] at ho7
  have HRS := Lib.hid hrs
  obtain ⟨a7, c7, rfl, _, _⟩ := ho7.sl.shape
  clear hrs HKP
  have HF := Lib.hid (And.intro (Own.wide2 ho7 hs66 (Nat.le_refl _)) (HB0.out.trans (hb7.mono hs66)))
  clear ho7 hb7 HJ2
  go_wp2
  go_ret
  exact RetV.mk _ rfl (by rw [← HRS.out]; exact HF.out)
theorem katC_any : ∀ (T : PT), T.ok = true → KatC T
  | .one w, h => katC_one w h
  | .seq a b, h => by
    simp only [PT.ok, Bool.and_eq_true] at h
    exact katC_seq a b h.2 (katC_any a h.1) (katC_any b h.2)
  | .ite t a b, h => by
    simp only [PT.ok, Bool.and_eq_true] at h
    exact katC_ite t a b h.1.1 h.2 (katC_any a h.1.2) (katC_any b h.2)
  | .wh t a, h => by
    simp only [PT.ok, Bool.and_eq_true] at h
    exact katC_wh t a h.1 (katC_any a h.2)
set_option maxRecDepth 100000 in
set_option maxHeartbeats 1600000 in
theorem spec_ProgKat (lo hi : Nat) (v : Value) (p : List Int) (w : World) (hx : SlI lo hi w v p) (hh : hi ≤ w.heap.size) (hm : p.length ≤ 1048576) :
    Calls Try.prog 6 #[v] w (RetO (progK p) w) := by
  have HV := Lib.hid (spec_ProgValid lo hi v p w hx hm)
  cases hv : progV p with
  | false =>
    have HK := Lib.hid (show progK p = none by simp [progK, hv])
    rw [hv] at HV
    have HZ : Hid (OwnI w.heap.size (w.alloc (.cells #[] 3)).heap.size 3 (w.alloc (.cells #[] 3)) (.slice (some ⟨w.heap.size, 0, none⟩) 0 0) [] ∧ Below w.heap.size w (w.alloc (.cells #[] 3))) := Lib.hid ⟨(Own.lit 1 3 w (ints []) 0 (by omega) rfl).wide2 (Nat.le_refl _) (by simp), al_below _ _⟩
    obtain ⟨a, cap, rfl, _, _⟩ := hx.shape
    clear hx hv
    go_enter Try.func6, Try.ntmps6
    go_wp2_with fail
    refine HV.out.mono ?_
    rintro e _ ⟨rfl, rfl⟩
    go_wp2
    go_ret2
    exact ⟨_, _, rfl, by rw [HK.out]; rfl, by rw [HK.out]; exact HZ.out.1, HZ.out.2⟩
  | true =>
    rw [hv] at HV
    obtain ⟨T, h1, h2, h3, h4⟩ := progV_tree hv
    have hpl := T.post_length
    have HC := Lib.hid fun (w' : World) (h : SlI lo hi w' v T.post) (h' : hi ≤ w'.heap.size) => katC_any T h1 lo hi v w' h h' (by omega)
    have hk6 := kat_len6 T
    have hks := KT.post_length T.kat
    have HK := Lib.hid (show progK p = if T.kat.size ≤ 40 then some T.kat.post else none by rw [← h2]; exact progK_tree h1 h4)
    have hkv : katV T.kat.post = decide (T.kat.post.length ≤ 40) := by
      by_cases h : T.kat.post.length ≤ 40
      · rw [katV_post (PT.kat_ok h1) (by omega)]; simp [h]
      · rw [Bool.eq_false_iff.2 (fun hh => h (katV_len hh))]; simp [h]
    have HKV := Lib.hid hkv
    subst h2
    have HX := Lib.hid hx
    obtain ⟨a, cap, rfl, _, _⟩ := hx.shape
    have HC1 := Lib.hid (HC.out w HX.out hh)
    obtain ⟨ks, hks2⟩ : ∃ ks, ks = T.kat.post := ⟨_, rfl⟩
    rw [← hks] at HK
    rw [← hks2] at HC HC1 HK HKV hk6
    have hkl : ks.length ≤ 1000 := by omega
    clear hx hv hkv h1 h3 h4 hks hks2 hpl hk6
    obtain ⟨r, hr⟩ : ∃ r, r = progK T.post := ⟨_, rfl⟩
    rw [← hr] at HK ⊢
    obtain ⟨xs, hxs⟩ : ∃ xs, xs = T.post := ⟨_, rfl⟩
    rw [← hxs] at HV HX HC HC1 hm ⊢
    clear hr hxs
    go_enter Try.func6, Try.ntmps6
    go_wp2_with fail
    refine HV.out.mono ?_
    rintro e _ ⟨rfl, rfl⟩
    go_wp2_with fail
    refine HC1.out.mono ?_
    rintro e w1 ⟨v1, rfl, ho1, hb1⟩
    have hs1 := hb1.size
    obtain ⟨a1, c1, rfl, _, _⟩ := ho1.sl.shape
    have HKC := Lib.hid (spec_KatValid _ _ _ ks w1 ho1.sl (by omega))
    have HB1 := Lib.hid hb1
    replace HX := Lib.hid (HX.out.below hb1 hh)
    clear HC1 ho1 hb1
    by_cases hl : ks.length ≤ 40
    · have HR : Hid (r = some ks) := Lib.hid (by rw [HK.out, if_pos hl])
      rw [HKV.out, decide_eq_true hl] at HKC
      have HC2 := Lib.hid (HC.out w1 HX.out (by omega))
      clear HK HKV HC
      go_wp2_with fail
      refine HKC.out.mono ?_
      rintro e _ ⟨rfl, rfl⟩
      go_wp2_with fail
      refine HC2.out.mono ?_
      rintro e w2 ⟨v2, rfl, ho2, hb2⟩
      obtain ⟨a2, c2, rfl, _, _⟩ := ho2.sl.shape
      have HF := Lib.hid (And.intro (Own.wide2 ho2 hs1 (Nat.le_refl _)) (HB1.out.trans (hb2.mono hs1)))
      clear ho2 hb2 HC2
      go_wp2
      go_ret2
      exact RetO.yes rfl HR.out HF.out.1 HF.out.2
    · have HR : Hid (r = none) := Lib.hid (by rw [HK.out, if_neg hl])
      rw [HKV.out, decide_eq_false hl] at HKC
      have HZ : Hid (OwnI w.heap.size (w1.alloc (.cells #[] 3)).heap.size 3 (w1.alloc (.cells #[] 3)) (.slice (some ⟨w1.heap.size, 0, none⟩) 0 0) [] ∧ Below w.heap.size w (w1.alloc (.cells #[] 3))) := Lib.hid ⟨(Own.lit 1 3 w1 (ints []) 0 (by omega) rfl).wide2 hs1 (by simp), HB1.out.trans ((al_below _ _).mono hs1)⟩
      clear HK HKV HC
      go_wp2_with fail
      refine HKC.out.mono ?_
      rintro e _ ⟨rfl, rfl⟩
      go_wp2
      go_ret2
      exact ⟨_, _, rfl, by rw [HR.out]; rfl, by rw [HR.out]; exact HZ.out.1, HZ.out.2⟩
end Go.Proofs.Ytoondakdjhhehaa
