/-
  Texts of walks and plain lemmas for this seat; no condition.
-/
import Derived.Test.YtoondakdjhhehaaDoorSProg
import Derived.Test.YtoondakdjhhehaaDoorCIns
namespace Go.Proofs.YtoondakdjhhehaaDoor
open Go.RowKit
set_option linter.unusedVariables false

theorem info_ins : (Tryd.prog.info? 33).map (fun i => (i.zero, i.size, i.bytes)) = some (some (.agg #[.int .i64 0, .int .i64 0, .int .i64 0]), 3, 24) := by kernel_rfl
theorem inss_append (a b : List In3) : inss (a ++ b) = inss a ++ inss b := by simp [inss]
theorem len_two {xs ys zs : List In3} {p q : Nat} (h : zs = xs ++ ys) (hx : xs.length = p) (hy : ys.length = q) : zs.length ≤ p + q ∧ p + q ≤ zs.length := by
  rw [h, List.length_append, hx, hy]
  omega
theorem OwnC.len {lo hi e n : Nat} {w : World} {v : Value} {xs : List In3} (h : Own 3 lo hi e w v n (inss xs)) (hn : n = xs.length) : OwnC lo hi e w v xs := by subst hn; exact h
/-- A code on its way, in new memory from a block on. -/
def CW (lo : Nat) (w wr : World) (v : Value) (xs : List In3) : Prop := OwnC lo wr.heap.size 33 wr v xs ∧ Below w.heap.size w wr ∧ w.heap.size ≤ lo ∧ lo ≤ wr.heap.size
theorem CW.app {lo n : Nat} {w wr wy : World} {v v' : Value} {xs ys : List In3} (h : CW lo w wr v xs) (h5 : Own 3 lo wy.heap.size 33 wy v' n (inss xs ++ inss ys)) (h6 : Outside lo wr.heap.size wr wy) (hn : n = xs.length + ys.length) :
    ∃ a cap zs, zs = xs ++ ys ∧ v' = .slice a zs.length cap ∧ CW lo w wy (.slice a zs.length cap) zs := by
  obtain ⟨a, cap, rfl, _⟩ := Own.open h5
  have hl : n = (xs ++ ys).length := by simp [hn]
  refine ⟨a, cap, xs ++ ys, rfl, by rw [hl], ?_⟩
  have ho : OwnC lo wy.heap.size 33 wy (.slice a n cap) (xs ++ ys) := OwnC.len (n := n) (by rw [inss_append]; exact h5) hl
  rw [← hl]
  exact ⟨ho, Below.outside h.2.1 h6 h.2.2.1 h.2.1.size, h.2.2.1, Nat.le_trans h.2.2.2 h6.size⟩
theorem CW.lit {w wr : World} (hb : Below w.heap.size w wr) (xs : List In3) (hx : xs.length ≤ 100) : CW wr.heap.size w (wr.alloc (.cells (inss xs).toArray 33)) (.slice (some ⟨wr.heap.size, 0, none⟩) xs.length xs.length) xs := by
  have h0 := Own.lit 3 33 wr (inss xs) xs.length (by omega) (inss_length xs)
  have hs := hb.size
  refine ⟨?_, hb.alloc hs _, hs, by simp⟩
  have : (wr.alloc (.cells (inss xs).toArray 33)).heap.size = wr.heap.size + 1 := by simp
  rw [this]
  exact h0
theorem code_len : ∀ (T : PT) (n : Nat), (T.code n).length ≤ 2 * T.post.length
  | .one w, n => by simp only [PT.code, PT.post]; split <;> simp
  | .seq a b, n => by
    have h1 := code_len a n
    have h2 := code_len b (n + (a.code n).length)
    simp only [PT.code, PT.post, List.length_append, List.length_singleton]
    omega
  | .ite t a b, n => by
    have h1 := code_len a (n + 1)
    have h2 := code_len b (n + (a.code (n + 1)).length + 2)
    simp only [PT.code, PT.post, List.length_append, List.length_singleton]
    omega
  | .wh t a, n => by
    have h1 := code_len a (n + 1)
    simp only [PT.code, PT.post, List.length_append, List.length_singleton]
    omega
/-- What l8Code does with a program. -/
def CodeC (T : PT) : Prop := ∀ (lo hi : Nat) (v : Value) (n : Nat) (w : World), SlI lo hi w v T.post → hi ≤ w.heap.size → T.post.length ≤ 1000 → n + 2 * T.post.length ≤ 1000000 →
  Calls Tryd.prog 63 #[v, .int .i64 n] w (RetV fun u w' => ∃ zs, zs = T.code n ∧ OwnC w.heap.size w'.heap.size 33 w' u zs ∧ Below w.heap.size w w')
theorem CW.ret {lo : Nat} {w wr : World} {v : Value} {xs ys : List In3} (h : CW lo w wr v xs) (e : xs = ys) : ∃ zs, zs = ys ∧ OwnC w.heap.size wr.heap.size 33 wr v zs ∧ Below w.heap.size w wr :=
  ⟨xs, e, Own.wide2 h.1 h.2.2.1 (Nat.le_refl _), h.2.1⟩
/-- The last word of a row. -/
theorem last_cell {lo hi : Nat} {w : World} {v : Value} {xs : List Int} {s : Int} (h : SlI lo hi w v (xs ++ [s])) :
    ∃ b off cap, v = .slice (some ⟨b, off, none⟩) (xs.length + 1) cap ∧ xs.length + 1 ≤ cap ∧ cap ≤ maxLen ∧ w.cell? ⟨b, off + xs.length, none⟩ = some (.int .i64 s) := by
  obtain ⟨a, cap, e, h1, h2, h3⟩ := h.open
  obtain ⟨b, off, e1, _, _, _, h4⟩ := h3 xs.length (by simp)
  subst e e1
  refine ⟨b, off, cap, by simp, by simpa using h1, h2, ?_⟩
  rw [h4]
  simp

set_option maxRecDepth 100000 in
set_option maxHeartbeats 3200000 in
theorem code_one (x : Int) (hx : inB x 15 18 = true) : CodeC (.one x) := by
  intro lo hi v n w h hhi hm hn
  have hx1 : 15 ≤ x ∧ x ≤ 18 := by simp only [inB, Bool.and_eq_true, decide_eq_true_eq] at hx; exact hx
  obtain ⟨b, off, cap, rfl, hc1, hc2, hcell⟩ := last_cell (xs := []) (s := x) h
  simp only [List.length_nil, Nat.zero_add, Nat.add_zero] at hc1 hcell ⊢
  obtain ⟨hxa, hxb⟩ := hx1
  clear h hx
  by_cases h15 : x = 15
  · subst h15
    have HZ := Lib.hid (CW.lit (Below.refl w.heap.size w) [] (by simp))
    go_enter Tryd.func63, Tryd.ntmps63
    go_wp2
    go_ret
    exact RetV.mk _ rfl (HZ.out.ret (by simp [PT.code]))
  · have g1 : (x == 15) = false := by simpa using h15
    have HZ := Lib.hid (CW.lit (Below.refl w.heap.size w) [⟨0, x, 0⟩] (by simp))
    have HE : Hid ([⟨0, x, 0⟩] = (PT.one x).code n) := Lib.hid (by simp [PT.code, h15])
    clear h15
    go_enter Tryd.func63, Tryd.ntmps63
    go_wp2
    go_ret
    exact RetV.mk _ rfl (HZ.out.ret HE.out)

set_option maxRecDepth 100000 in
set_option maxHeartbeats 6400000 in
theorem code_wh (t : Int) (a : PT) (ht : inB t 0 15 = true) (IH : CodeC a) : CodeC (.wh t a) := by
  intro lo hi v n w h hhi hm hn
  have ht1 : 0 ≤ t ∧ t ≤ 15 := by simp only [inB, Bool.and_eq_true, decide_eq_true_eq] at ht; exact ht
  obtain ⟨ht0, ht15⟩ := ht1
  change SlI lo hi w v (a.post ++ [200 + t]) at h
  obtain ⟨b, off, cap, rfl, hc1, hc2, hcell⟩ := last_cell h
  unfold maxLen at hc2
  have hsub := h.sub 0 a.post.length (by omega) (by simp)
  simp only [Nat.add_zero, Nat.sub_zero, List.drop_zero, List.take_left] at hsub
  have HA := Lib.hid hsub
  have hml : a.post.length + 1 ≤ 1000 := by simpa [PT.post] using hm
  have hnl : n + 2 * (a.post.length + 1) ≤ 1000000 := by simpa [PT.post] using hn
  obtain ⟨m, hme⟩ : ∃ m, m = a.post.length := ⟨_, rfl⟩
  have HCL := Lib.hid (code_len a (n + 1))
  rw [← hme] at hc1 hcell HA hml HCL hnl ⊢
  have hapl : (a.post).length ≤ 1000 := by omega
  have HIH := Lib.hid (IH lo hi (.slice (some ⟨b, off, none⟩) m cap) (n + 1) w HA.out hhi hapl (by rw [← hme]; omega))
  have HT : Hid ([⟨1, t, ((n + (a.code (n + 1)).length + 2 : Nat) : Int)⟩] ++ a.code (n + 1) ++ [⟨2, 0, (n : Int)⟩] = (PT.wh t a).code n) := Lib.hid (by simp [PT.code])
  clear h hsub hm hn ht hme hapl
  have d1 : ((200 + t) == 15) = false := by simp; omega
  have d2 : ((n : Int) + 1) = ((n + 1 : Nat) : Int) := by omega
  rw [← d2] at HIH
  clear d2
  have e1 : ((m : Int) + 1 - 1) = m := by omega
  go_enter Tryd.func63, Tryd.ntmps63
  go_wp2_with fail
  refine HIH.out.mono ?_
  rintro e w1 ⟨_, rfl, cs, hcs, ho, hb⟩
  obtain ⟨ba, bc, rfl, _, _⟩ := Sl.shape ho.sl
  have hs1 := hb.size
  have HCS := Lib.hid hcs
  rw [← hcs] at HCL HT
  have hcl := HCL.out
  have HB1 := Lib.hid hb
  have HS := Lib.hid (CW.lit hb [⟨1, t, ((n + cs.length + 2 : Nat) : Int)⟩] (by simp))
  have HO := Lib.hid (ho.sl.below ((Below.refl w1.heap.size w1).alloc (Nat.le_refl _) (.cells (inss [⟨1, t, ((n + cs.length + 2 : Nat) : Int)⟩]).toArray 33)) (Nat.le_refl _))
  obtain ⟨wl, hwl⟩ : ∃ wl, wl = w1.alloc (.cells (inss [⟨1, t, ((n + cs.length + 2 : Nat) : Int)⟩]).toArray 33) := ⟨_, rfl⟩
  rw [← hwl] at HS HO
  have HWL : Hid (w1.alloc (.cells #[.int .i64 1, .int .i64 t, .int .i64 ((n : Int) + cs.length + 2)] 33) = wl) := Lib.hid (by rw [hwl]; simp [inss, encI])
  clear hcs ho hb hwl HIH
  have e2 : (200 + t - 200) = t := by omega
  have HONE : Hid (1 = ([⟨1, t, ((n + cs.length + 2 : Nat) : Int)⟩] : List In3).length) := Lib.hid rfl
  have hown6 := HS.out.1
  have hsz6 := HS.out.2.2.2
  go_wp2_with (first | (at_builtin; rw [HWL.out]; refine wpList_app_sl rfl _ _ 26 rfl 33 (.agg #[.int .i64 0, .int .i64 0, .int .i64 0]) 3 24 Tryd.underlying26 info_ins rfl (by decide) (by decide) rfl hown6 rfl HO.out (inss_one _) ?c16 ?c26 ?_))
  case c16 => first | omega | (simp; omega)
  case c26 => omega
  intro v' w6 h5 _ h6 _
  obtain ⟨a6, cap6, zs6, hz6, rfl, HS6⟩ := HS.out.app h5 h6 (by simp)
  have HZ6 := Lib.hid hz6
  obtain ⟨lz6, lw6⟩ : zs6.length ≤ 1 + cs.length ∧ 1 + cs.length ≤ zs6.length := len_two hz6 rfl rfl
  clear h5 h6 HS hown6 hz6
  have HS := Lib.hid HS6
  clear HS6
  have hown8 := HS.out.1
  have hsz8 := HS.out.2.2.2
  go_wp2_with (at_builtin; refine wpList_app_lit _ rfl _ _ 26 rfl 33 (.agg #[.int .i64 0, .int .i64 0, .int .i64 0]) 3 24 Tryd.underlying26 info_ins rfl (by decide) (by decide) rfl hown8 1 (inss [⟨2, 0, (n : Int)⟩]) rfl rfl (inss_one _) rfl ?c18 ?c28 ?_)
  case c18 => omega
  case c28 => omega
  intro v' w8 h5 h6 _
  obtain ⟨a8, cap8, zs8, hz8, rfl, HS8⟩ := HS.out.app h5 h6 (by simp)
  have HZ8 := Lib.hid hz8
  obtain ⟨lz8, lw8⟩ : zs8.length ≤ zs6.length + 1 ∧ zs6.length + 1 ≤ zs8.length := len_two hz8 rfl rfl
  clear h5 h6 HS hown8 hz8
  have HS := Lib.hid HS8
  clear HS8
  go_wp2
  go_ret
  exact RetV.mk _ rfl (HS.out.ret (by rw [HZ8.out, HZ6.out, ← HT.out]))

set_option maxRecDepth 100000 in
set_option maxHeartbeats 6400000 in
theorem code_seq (a b : PT) (hoa : a.ok = true) (hob : b.ok = true) (IHA : CodeC a) (IHB : CodeC b) : CodeC (.seq a b) := by
  intro lo hi v n w h hhi hm hn
  change SlI lo hi w v (a.post ++ b.post ++ [30]) at h
  obtain ⟨bb, off, cap, rfl, hc1, hc2, hcell⟩ := last_cell h
  unfold maxLen at hc2
  have hml : a.post.length + b.post.length + 1 ≤ 1000 := by simpa [PT.post, Nat.add_assoc] using hm
  have hnl : n + 2 * (a.post.length + b.post.length + 1) ≤ 1000000 := by simpa [PT.post, Nat.add_assoc] using hn
  have HLa := fun k => code_len a k
  have HLb := fun k => code_len b k
  have HLA := Lib.hid HLa
  have HLB := Lib.hid HLb
  clear HLa HLb
  have hxl : (a.post ++ b.post ++ [30]).length ≤ 1048576 := by simp; omega
  have HHV := Lib.hid (l8Halves_any lo hi _ a b (30) w h hxl hob)
  have hpl : (a.post ++ b.post).length = a.post.length + b.post.length := List.length_append
  obtain ⟨ma, hma⟩ : ∃ ma, ma = a.post.length := ⟨_, rfl⟩
  obtain ⟨mb, hmb⟩ : ∃ mb, mb = b.post.length := ⟨_, rfl⟩
  have HMA := Lib.hid hma
  have HMB := Lib.hid hmb
  rw [hpl, ← hma, ← hmb] at hc1 hcell HHV ⊢
  rw [← hma, ← hmb] at hml hnl
  clear h hm hn hxl hpl hma hmb
  have e1 : ((ma : Int) + mb + 1 - 1) = ((ma + mb : Nat) : Int) := by omega
  have e3 : (((ma + mb + 1 : Nat) : Int) - 1) = ((ma + mb : Nat) : Int) := by omega

  go_enter Tryd.func63, Tryd.ntmps63
  go_wp2_with fail
  refine HHV.out.mono ?_
  rintro e wh ⟨va, vb, rfl, ⟨mh, rfl⟩, ha, hb⟩
  clear HHV
  obtain ⟨aa, ac, rfl, _, _⟩ := Sl.shape ha
  obtain ⟨ab, bc, rfl, _, _⟩ := Sl.shape hb
  have hbw : Below w.heap.size w (w.drewN mh) := below_drewN (Below.refl _ _) _
  have HA : Hid (SlI lo hi (w.drewN mh) (.slice aa a.post.length ac) a.post) := Lib.hid (ha.below hbw hhi)
  have HB : Hid (SlI lo hi (w.drewN mh) (.slice ab b.post.length bc) b.post) := Lib.hid (hb.below hbw hhi)
  obtain ⟨w0, hw0⟩ : ∃ w0, w0 = w.drewN mh := ⟨_, rfl⟩
  rw [← hw0] at hbw HA HB ⊢
  have hs0 := hbw.size
  have HB0 := Lib.hid hbw
  clear ha hb hbw hw0
  rw [← HMA.out] at HA ⊢
  rw [← HMB.out] at HB ⊢
  have hhi0 : hi ≤ w0.heap.size := by omega
  go_wp2_with fail
  refine (IHA lo hi _ n w0 HA.out hhi0 (by rw [← HMA.out]; omega) (by rw [← HMA.out]; omega)).mono ?_
  rintro e w1 ⟨_, rfl, cs, hcs, ho, hb⟩
  obtain ⟨ba, bc1, rfl, _, _⟩ := Sl.shape ho.sl
  have hs1 := hb.size
  have HCS := Lib.hid hcs
  have hcl : cs.length ≤ 2 * ma := by rw [hcs, HMA.out]; exact HLA.out n
  replace HB0 := Lib.hid (HB0.out.trans (hb.mono (by omega)))
  replace HB := Lib.hid (HB.out.below hb (by omega))
  have HS := Lib.hid (CW.lit HB0.out [] (by simp))
  have HO := Lib.hid (ho.sl.below ((Below.refl w1.heap.size w1).alloc (Nat.le_refl _) (.cells (inss []).toArray 33)) (Nat.le_refl _))
  replace HB := Lib.hid (HB.out.below ((Below.refl w1.heap.size w1).alloc (Nat.le_refl _) (.cells (inss []).toArray 33)) (by omega))
  obtain ⟨wl, hwl⟩ : ∃ wl, wl = w1.alloc (.cells (inss []).toArray 33) := ⟨_, rfl⟩
  have hsl : w1.heap.size + 1 = wl.heap.size := by rw [hwl]; simp
  rw [← hwl] at HS HO HB
  have hsl2 : w1.heap.size ≤ wl.heap.size := by omega
  have HWL : Hid (w1.alloc (.cells #[] 33) = wl) := Lib.hid hwl.symm
  clear hcs ho hb hwl hsl
  have hown6 := HS.out.1
  have hsz6 := HS.out.2.2.2
  go_wp2_with (first | (at_builtin; rw [HWL.out]; refine wpList_app_sl rfl _ _ 26 rfl 33 (.agg #[.int .i64 0, .int .i64 0, .int .i64 0]) 3 24 Tryd.underlying26 info_ins rfl (by decide) (by decide) rfl hown6 rfl HO.out (inss_one _) ?c16 ?c26 ?_))
  case c16 => first | omega | (simp; omega)
  case c26 => omega
  intro v' w6 h5 _ h6 _
  obtain ⟨a6, cap6, zs6, hz6, rfl, HS6⟩ := HS.out.app h5 h6 (by simp)
  have HZ6 := Lib.hid hz6
  obtain ⟨lz6, lw6⟩ : zs6.length ≤ 0 + cs.length ∧ 0 + cs.length ≤ zs6.length := len_two hz6 rfl rfl
  replace HB := Lib.hid (HB.out.outside h6 (.inl (by omega)))
  have hs6 := h6.size
  clear h5 h6 HS hown6 hz6
  have HS := Lib.hid HS6
  clear HS6
  have d2 : ((n : Int) + (cs.length : Int)) = ((n + cs.length : Nat) : Int) := by omega
  have HIH := Lib.hid (IHB lo hi (.slice ab mb bc) (n + cs.length) w6 (by first | exact HB.out | (have h := HB.out; exact h)) (by omega) (by rw [← HMB.out]; omega) (by rw [← HMB.out]; omega))
  rw [← d2] at HIH
  clear d2
  go_wp2_with fail
  refine HIH.out.mono ?_
  rintro e w7 ⟨_, rfl, ds, hds, ho, hb⟩
  obtain ⟨da, dc, rfl, _, _⟩ := Sl.shape ho.sl
  have hs7 := hb.size
  have HDS := Lib.hid hds
  have hdl : ds.length ≤ 2 * mb := by rw [hds, HMB.out]; exact HLB.out _
  have HO2 := Lib.hid ho.sl
  have HSx := Lib.hid (show CW _ w w7 _ _ from ⟨(HS.out.1.below hb (Nat.le_refl _)).wide2 (Nat.le_refl _) hs7, HS.out.2.1.trans (hb.mono (by omega)), HS.out.2.2.1, Nat.le_trans HS.out.2.2.2 hs7⟩)
  clear HS
  have HS := HSx
  clear HSx hds ho hb HIH
  have hown8 := HS.out.1
  have hsz8 := HS.out.2.2.2
  go_wp2_with (at_builtin; go_loud (refine wpList_app_sl rfl _ _ 26 rfl 33 (.agg #[.int .i64 0, .int .i64 0, .int .i64 0]) 3 24 Tryd.underlying26 info_ins rfl (by decide) (by decide) rfl hown8 rfl HO2.out (inss_one _) ?c18 ?c28 ?_))
  case c18 => first | omega | (simp; omega)
  case c28 => omega
  intro v' w8 h5 _ h6 _
  obtain ⟨a8, cap8, zs8, hz8, rfl, HS8⟩ := HS.out.app h5 h6 (by simp)
  have HZ8 := Lib.hid hz8
  obtain ⟨lz8, lw8⟩ : zs8.length ≤ zs6.length + ds.length ∧ zs6.length + ds.length ≤ zs8.length := len_two hz8 rfl rfl
  clear h5 h6 HS hown8 hz8
  have HS := Lib.hid HS8
  clear HS8
  go_wp2
  go_ret
  exact RetV.mk _ rfl (HS.out.ret (by rw [HZ8.out, HZ6.out, HCS.out, HDS.out, HCS.out]; simp [PT.code]))

set_option maxRecDepth 100000 in
set_option maxHeartbeats 6400000 in
theorem code_ite (t : Int) (a b : PT) (ht : inB t 0 15 = true) (hoa : a.ok = true) (hob : b.ok = true) (IHA : CodeC a) (IHB : CodeC b) : CodeC (.ite t a b) := by
  intro lo hi v n w h hhi hm hn
  have ht1 : 0 ≤ t ∧ t ≤ 15 := by simp only [inB, Bool.and_eq_true, decide_eq_true_eq] at ht; exact ht
  obtain ⟨ht0, ht15⟩ := ht1
  change SlI lo hi w v (a.post ++ b.post ++ [100 + t]) at h
  obtain ⟨bb, off, cap, rfl, hc1, hc2, hcell⟩ := last_cell h
  unfold maxLen at hc2
  have hml : a.post.length + b.post.length + 1 ≤ 1000 := by simpa [PT.post, Nat.add_assoc] using hm
  have hnl : n + 2 * (a.post.length + b.post.length + 1) ≤ 1000000 := by simpa [PT.post, Nat.add_assoc] using hn
  have HLa := fun k => code_len a k
  have HLb := fun k => code_len b k
  have HLA := Lib.hid HLa
  have HLB := Lib.hid HLb
  clear HLa HLb
  have hxl : (a.post ++ b.post ++ [100 + t]).length ≤ 1048576 := by simp; omega
  have HHV := Lib.hid (l8Halves_any lo hi _ a b (100 + t) w h hxl hob)
  have hpl : (a.post ++ b.post).length = a.post.length + b.post.length := List.length_append
  obtain ⟨ma, hma⟩ : ∃ ma, ma = a.post.length := ⟨_, rfl⟩
  obtain ⟨mb, hmb⟩ : ∃ mb, mb = b.post.length := ⟨_, rfl⟩
  have HMA := Lib.hid hma
  have HMB := Lib.hid hmb
  rw [hpl, ← hma, ← hmb] at hc1 hcell HHV ⊢
  rw [← hma, ← hmb] at hml hnl
  clear h hm hn hxl hpl hma hmb
  have e1 : ((ma : Int) + mb + 1 - 1) = ((ma + mb : Nat) : Int) := by omega
  have e3 : (((ma + mb + 1 : Nat) : Int) - 1) = ((ma + mb : Nat) : Int) := by omega
  have d1 : ((100 + t) == 15) = false := by simp; omega
  have d3 : ((100 + t) == 30) = false := by simp; omega
  go_enter Tryd.func63, Tryd.ntmps63
  go_wp2_with fail
  refine HHV.out.mono ?_
  rintro e wh ⟨va, vb, rfl, ⟨mh, rfl⟩, ha, hb⟩
  clear HHV
  obtain ⟨aa, ac, rfl, _, _⟩ := Sl.shape ha
  obtain ⟨ab, bc, rfl, _, _⟩ := Sl.shape hb
  have hbw : Below w.heap.size w (w.drewN mh) := below_drewN (Below.refl _ _) _
  have HA : Hid (SlI lo hi (w.drewN mh) (.slice aa a.post.length ac) a.post) := Lib.hid (ha.below hbw hhi)
  have HB : Hid (SlI lo hi (w.drewN mh) (.slice ab b.post.length bc) b.post) := Lib.hid (hb.below hbw hhi)
  obtain ⟨w0, hw0⟩ : ∃ w0, w0 = w.drewN mh := ⟨_, rfl⟩
  rw [← hw0] at hbw HA HB ⊢
  have hs0 := hbw.size
  have HB0 := Lib.hid hbw
  clear ha hb hbw hw0
  rw [← HMA.out] at HA ⊢
  rw [← HMB.out] at HB ⊢
  have hhi0 : hi ≤ w0.heap.size := by omega
  have d2 : ((n : Int) + 1) = ((n + 1 : Nat) : Int) := by omega
  have HIA := Lib.hid (IHA lo hi (.slice aa ma ac) (n + 1) w0 HA.out hhi0 (by rw [← HMA.out]; omega) (by rw [← HMA.out]; omega))
  rw [← d2] at HIA
  clear d2
  go_wp2_with fail
  refine HIA.out.mono ?_
  rintro e w1 ⟨_, rfl, cs, hcs, ho, hb⟩
  obtain ⟨ba, bc1, rfl, _, _⟩ := Sl.shape ho.sl
  have hs1 := hb.size
  have HCS := Lib.hid hcs
  have hcl : cs.length ≤ 2 * ma := by rw [hcs, HMA.out]; exact HLA.out _
  replace HB0 := Lib.hid (HB0.out.trans (hb.mono (by omega)))
  replace HB := Lib.hid (HB.out.below hb (by omega))
  have HO := Lib.hid ho.sl
  have d2 : ((n : Int) + (cs.length : Int) + 2) = ((n + cs.length + 2 : Nat) : Int) := by omega
  have HIH := Lib.hid (IHB lo hi (.slice ab mb bc) (n + cs.length + 2) w1 HB.out (by omega) (by rw [← HMB.out]; omega) (by rw [← HMB.out]; omega))
  rw [← d2] at HIH
  clear d2 hcs ho hb HIA
  go_wp2_with fail
  refine HIH.out.mono ?_
  rintro e w7 ⟨_, rfl, ds, hds, ho, hb⟩
  obtain ⟨da, dc, rfl, _, _⟩ := Sl.shape ho.sl
  have hs7 := hb.size
  have HDS := Lib.hid hds
  have hdl : ds.length ≤ 2 * mb := by rw [hds, HMB.out]; exact HLB.out _
  replace HB0 := Lib.hid (HB0.out.trans (hb.mono (by omega)))
  replace HO := Lib.hid (HO.out.below hb (Nat.le_refl _))
  have HS := Lib.hid (CW.lit HB0.out [⟨1, t, ((n + cs.length + 2 : Nat) : Int)⟩] (by simp))
  have hbl := (Below.refl w7.heap.size w7).alloc (Nat.le_refl _) (.cells (inss [⟨1, t, ((n + cs.length + 2 : Nat) : Int)⟩]).toArray 33)
  replace HO := Lib.hid (HO.out.below hbl (by omega))
  have HO2 := Lib.hid (ho.sl.below hbl (Nat.le_refl _))
  obtain ⟨wl, hwl⟩ : ∃ wl, wl = w7.alloc (.cells (inss [⟨1, t, ((n + cs.length + 2 : Nat) : Int)⟩]).toArray 33) := ⟨_, rfl⟩
  have hsl2 : w7.heap.size ≤ wl.heap.size := by rw [hwl]; simp
  rw [← hwl] at HS HO HO2
  have HWL : Hid (w7.alloc (.cells #[.int .i64 1, .int .i64 t, .int .i64 ((n : Int) + cs.length + 2)] 33) = wl) := Lib.hid (by rw [hwl]; simp [inss, encI])
  clear hds ho hb hwl hbl HIH
  have e2 : (100 + t - 100) = t := by omega
  have hown6 := HS.out.1
  have hsz6 := HS.out.2.2.2
  go_wp2_with (first | (at_builtin; rw [HWL.out]; refine wpList_app_sl rfl _ _ 26 rfl 33 (.agg #[.int .i64 0, .int .i64 0, .int .i64 0]) 3 24 Tryd.underlying26 info_ins rfl (by decide) (by decide) rfl hown6 rfl HO.out (inss_one _) ?c16 ?c26 ?_))
  case c16 => first | omega | (simp; omega)
  case c26 => omega
  intro v' w6 h5 _ h6 _
  obtain ⟨a6, cap6, zs6, hz6, rfl, HS6⟩ := HS.out.app h5 h6 (by simp)
  have HZ6 := Lib.hid hz6
  obtain ⟨lz6, lw6⟩ : zs6.length ≤ 1 + cs.length ∧ 1 + cs.length ≤ zs6.length := len_two hz6 rfl rfl
  replace HO2 := Lib.hid (HO2.out.outside h6 (.inl (Nat.le_refl _)))
  clear h5 h6 HS hown6 hz6
  have HS := Lib.hid HS6
  clear HS6
  have d4 : ((n : Int) + cs.length + 2 + ds.length) = ((n + cs.length + 2 + ds.length : Nat) : Int) := by omega
  have hown8 := HS.out.1
  have hsz8 := HS.out.2.2.2
  have HD4 := Lib.hid d4
  clear d4
  go_wp2_with (at_builtin; refine wpList_app_lit _ rfl _ _ 26 rfl 33 (.agg #[.int .i64 0, .int .i64 0, .int .i64 0]) 3 24 Tryd.underlying26 info_ins rfl (by decide) (by decide) rfl hown8 1 (inss [⟨2, 0, (n : Int) + cs.length + 2 + ds.length⟩]) rfl rfl (inss_one _) rfl ?c18 ?c28 ?_)
  case c18 => omega
  case c28 => omega
  intro v' w8 h5 h6 _
  obtain ⟨a8, cap8, zs8, hz8, rfl, HS8⟩ := HS.out.app h5 h6 (by simp)
  have HZ8 := Lib.hid hz8
  obtain ⟨lz8, lw8⟩ : zs8.length ≤ zs6.length + 1 ∧ zs6.length + 1 ≤ zs8.length := len_two hz8 rfl rfl
  replace HO2 := Lib.hid (HO2.out.outside h6 (.inl (Nat.le_refl _)))
  clear h5 h6 HS hown8 hz8
  have HS := Lib.hid HS8
  clear HS8
  have hown9 := HS.out.1
  have hsz9 := HS.out.2.2.2
  go_wp2_with (at_builtin; go_loud (refine wpList_app_sl rfl _ _ 26 rfl 33 (.agg #[.int .i64 0, .int .i64 0, .int .i64 0]) 3 24 Tryd.underlying26 info_ins rfl (by decide) (by decide) rfl hown9 rfl HO2.out (inss_one _) ?c19 ?c29 ?_))
  case c19 => first | omega | (simp; omega)
  case c29 => omega
  intro v' w9 h5 _ h6 _
  obtain ⟨a9, cap9, zs9, hz9, rfl, HS9⟩ := HS.out.app h5 h6 (by simp)
  have HZ9 := Lib.hid hz9
  obtain ⟨lz9, lw9⟩ : zs9.length ≤ zs8.length + ds.length ∧ zs8.length + ds.length ≤ zs9.length := len_two hz9 rfl rfl
  clear h5 h6 HS hown9 hz9
  have HS := Lib.hid HS9
  clear HS9
  go_wp2
  go_ret
  exact RetV.mk _ rfl (HS.out.ret (by rw [HZ9.out, HZ8.out, HZ6.out, HD4.out, HDS.out, HCS.out]; simp [PT.code]))
theorem l8Code_any : ∀ (T : PT), T.ok = true → CodeC T
  | .one w, h => code_one w h
  | .seq a b, h => by
    simp only [PT.ok, Bool.and_eq_true] at h
    exact code_seq a b h.1 h.2 (l8Code_any a h.1) (l8Code_any b h.2)
  | .ite t a b, h => by
    simp only [PT.ok, Bool.and_eq_true] at h
    exact code_ite t a b h.1.1 h.1.2 h.2 (l8Code_any a h.1.2) (l8Code_any b h.2)
  | .wh t a, h => by
    simp only [PT.ok, Bool.and_eq_true] at h
    exact code_wh t a h.1 (l8Code_any a h.2)

theorem progC_none {p : List Int} (h : progV p = false) : progC p = none := by simp [progC, h]
theorem progC_big {T : PT} (h : T.ok = true) (hs : T.size ≤ 16) : progC T.post = some (T.code 0 ++ [endI]) := by
  have h1 := progV_post h hs
  have h2 := runP_post T h []
  have h3 := code_len T 0
  rw [T.post_length] at h3
  rw [progC, h1, treeP_of h2, if_pos (by simp; omega)]
/-- A code comes back, and whether there is one. -/
def RetCB (P : Value → Bool → World → Prop) (e : Ending) (w' : World) : Prop := ∃ v b, e = .returned (.tuple #[v, .bool b]) ∧ P v b w'
set_option maxRecDepth 100000 in
set_option maxHeartbeats 3200000 in
theorem spec_ProgCode (lo hi : Nat) (v : Value) (xs : List Int) (w : World) (hx : SlI lo hi w v xs) (hhi : hi ≤ w.heap.size) (hm : xs.length ≤ 1048576) :
    Calls Tryd.prog 28 #[v] w (RetCB fun u b w' => b = (progC xs).isSome ∧ OwnC w.heap.size w'.heap.size 33 w' u ((progC xs).getD []) ∧ Below w.heap.size w w') := by
  cases hv : progV xs with
  | false =>
    have HE := Lib.hid (progC_none hv)
    have HZ := Lib.hid (CW.lit (Below.refl w.heap.size w) [] (by simp))
    have HV := Lib.hid (spec_ProgValid lo hi v xs w hx hm)
    rw [hv] at HV
    clear hv
    obtain ⟨a, cap, rfl, _, _, _⟩ := hx.open
    go_enter Tryd.func28, Tryd.ntmps28
    go_wp2_with fail
    refine HV.out.mono ?_
    rintro e _ ⟨rfl, rfl⟩
    go_wp2
    go_ret2
    exact ⟨_, _, rfl, by rw [HE.out]; rfl, by rw [HE.out]; exact HZ.out.1, HZ.out.2.1⟩
  | true =>
    obtain ⟨T, h1, h2, _, h4⟩ := progV_tree hv
    have HV := Lib.hid (spec_ProgValid lo hi v xs w hx hm)
    rw [hv] at HV
    subst h2
    have HE := Lib.hid (progC_big h1 h4)
    have hpl := T.post_length
    have HC := Lib.hid (l8Code_any T h1 lo hi v 0 w hx hhi (by omega) (by omega))
    have hcl := code_len T 0
    obtain ⟨a, cap, rfl, _, _⟩ := Sl.shape hx
    have hpl2 : T.post.length ≤ 16 := by omega
    have HCL := Lib.hid hcl
    clear hv hpl hcl hx hm h1 h4
    go_enter Tryd.func28, Tryd.ntmps28
    go_wp2_with fail
    refine HV.out.mono ?_
    rintro e _ ⟨rfl, rfl⟩
    go_wp2_with fail
    refine HC.out.mono ?_
    rintro e w1 ⟨_, rfl, cs, hcs, ho, hb⟩
    obtain ⟨ba, bc, rfl, _, _⟩ := Sl.shape ho.sl
    have hs1 := hb.size
    have HCS := Lib.hid hcs
    have hcl : cs.length ≤ 2 * T.post.length := by rw [hcs]; exact HCL.out
    have HS := Lib.hid (show CW w.heap.size w w1 _ _ from ⟨ho, hb, Nat.le_refl _, hs1⟩)
    clear hcs ho hb
    have hown8 := HS.out.1
    have hsz8 := HS.out.2.2.2
    go_wp2_with (at_builtin; refine wpList_app_lit _ rfl _ _ 26 rfl 33 (.agg #[.int .i64 0, .int .i64 0, .int .i64 0]) 3 24 Tryd.underlying26 info_ins rfl (by decide) (by decide) rfl hown8 1 (inss [endI]) rfl rfl (inss_one _) rfl ?c18 ?c28 ?_)
    case c18 => omega
    case c28 => omega
    intro v' w8 h5 h6 _
    obtain ⟨a8, cap8, zs8, hz8, rfl, HS8⟩ := HS.out.app h5 h6 (by simp)
    have HZ8 := Lib.hid hz8
    obtain ⟨lz8, lw8⟩ : zs8.length ≤ cs.length + 1 ∧ cs.length + 1 ≤ zs8.length := len_two hz8 rfl rfl
    clear h5 h6 HS hown8 hz8
    have HS := Lib.hid HS8
    clear HS8
    have hd : decide (40 < (zs8.length : Int)) = false := decide_eq_false (by omega)
    go_wp2
    go_ret2
    exact ⟨_, _, rfl, by rw [HE.out]; rfl, by rw [HE.out]; simp only [Option.getD_some]; rw [← HCS.out, ← HZ8.out]; exact HS.out.1, HS.out.2.1⟩
end Go.Proofs.YtoondakdjhhehaaDoor
