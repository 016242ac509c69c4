/-
  Texts of walks and plain lemmas for this seat; no condition.
-/
import Derived.Test.YtipbanhelhidnaaGreatDoorGK
import Derived.Test.YtipbanhelhidnaaGreatDoorGG
import Derived.Test.YtipbanhelhidnaaGreatDoorGI
import Derived.Test.YtipbanhelhidnaaGreatDoorGJ
import Derived.Test.YtipbanhelhidnaaGreatDoorAct
import Derived.Test.YtipbanhelhidnaaGreatDoorGH
import Derived.Test.YtipbanhelhidnaaGreatDoorAcs
import Derived.Test.YtipbanhelhidnaaGreatDoorMvAt
import Derived.Lib.BufferMore
import Derived.Deep.RegionHeldLaw
import Derived.Deep.RegionHeld3
import Derived.Deep.RegionWith
namespace Go.Proofs.YtipbanhelhidnaaGreatDoor
open Go.RowKit
section

set_option maxRecDepth 100000 in
set_option maxHeartbeats 1600000 in
/-- slices.Clone of moves. -/
theorem cloneM_any (lo hi : Nat) (v : Value) (xs : List Mv) (w : World) (hx : SlM lo hi w v xs) (hm : xs.length ≤ 1048576) :
    Calls Tryz.prog 61 #[v] w (RetV fun v' w' => Below w.heap.size w w' ∧ OwnM w.heap.size w'.heap.size 39 w' v' xs) := by
  obtain ⟨a, cap, rfl, hcap, hcm, hl, hnone, hc⟩ := hx
  cases a with
  | none =>
    obtain rfl := hnone rfl
    have hx0 : xs = [] := List.eq_nil_of_length_eq_zero (by omega)
    subst hx0
    have heq : ∀ w, (binOp .eql 29 (.slice none 0 0) (.slice none 0 0)).run Tryz.prog w = .ok (.bool true) w := fun w => Lib.run_eql_slice_nil_nil w 0 0 Tryz.underlying29
    go_enter Tryz.func61, Tryz.ntmps61
    go_wp2
    go_ret
    exact RetV.mk _ rfl ⟨Below.refl _ _, Own.nil _ _ _ _ _⟩
  | some ad =>
    have HX : Hid (Sl 3 lo hi w (.slice (some ad) xs.length cap) xs.length (mvs xs)) := Lib.hid ⟨some ad, cap, rfl, hcap, hcm, hl, hnone, hc⟩
    have HOL : Hid (Own 3 w.heap.size (w.heap.size + 1) 39 (w.alloc (.cells #[] 39)) (.slice (some ⟨w.heap.size, 0, none⟩) 0 0) 0 []) := Lib.hid (Own.lit 3 39 w [] 0 (by omega) rfl)
    have HA := Lib.hid ((Below.refl w.heap.size w).alloc (Nat.le_refl _) (.cells #[] 39))
    have HXA : Hid (Sl 3 lo hi (w.alloc (.cells #[] 39)) (.slice (some ad) xs.length cap) xs.length (mvs xs)) := by
      refine Lib.hid ⟨some ad, cap, rfl, hcap, hcm, hl, hnone, fun i hi' => ?_⟩
      obtain ⟨b, off, e, e1, e2, e3, e4⟩ := hc i hi'
      exact ⟨b, off, e, e1, e2, by simp; omega, by rw [World.cell?_alloc_lt _ _ ⟨b, off + i, none⟩ e3]; exact e4⟩
    have heq : ∀ w, (binOp .eql 29 (.slice (some ad) xs.length cap) (.slice none 0 0)).run Tryz.prog w = .ok (.bool false) w := fun w => Lib.run_eql_slice_some_nil w ad xs.length cap Tryz.underlying29
    clear hl hnone hc
    go_enter Tryz.func61, Tryz.ntmps61
    go_wp2_with (at_builtin; go_loud (refine wpList_app_sl rfl _ _ 29 rfl 39 (.agg #[.int .i64 0, .bool false, .int .i64 0]) 3 24 Tryz.underlying29 info_mv rfl (by decide) (by decide) rfl HOL.out rfl HXA.out (mvs_one _) (by omega) (by simp) ?_))
    intro v2 w2 ho2 _ hout2 _
    have HO2 := Lib.hid ho2
    have HB2 := Lib.hid (Below.outside HA.out hout2 (Nat.le_refl _) (by simp))
    obtain ⟨a2, c2, rfl, _⟩ := Own.open ho2
    clear ho2 hout2
    go_wp2
    go_ret
    exact RetV.mk _ rfl ⟨HB2.out, HO2.out⟩

set_option maxRecDepth 100000 in
set_option maxHeartbeats 3200000 in
theorem desk_clone (lo hi : Nat) (a b c d : Value) (D : Dsk) (w : World) (hx : DeskAt lo hi w a b c d D) (hh : hi ≤ w.heap.size) (hm : D.size ≤ 1048576) :
    Calls Tryz.prog 31 #[aggD a b c d] w (DeskRet w D) := by
  unfold Dsk.size at hm
  obtain ⟨w0, hw0⟩ : ∃ w0, w0 = (w.alloc (.cells #[a, b, c, d] 31)).alloc (.cells #[.slice none 0 0, .slice none 0 0, .slice none 0 0, .slice none 0 0] 31) := ⟨_, rfl⟩
  have hb0 : Below w.heap.size w w0 := by rw [hw0]; exact ((Below.refl _ _).alloc (Nat.le_refl _) _).alloc (by simp) _
  have hs0 : w0.heap.size = w.heap.size + 2 := by rw [hw0]; simp
  have K1 : Hid (Blk w.heap.size (.cells #[a, b, c, d] 31) w0) := by
    rw [hw0]
    exact Lib.hid ((Blk.new w _).below ((Below.refl (w.alloc _).heap.size _).alloc (Nat.le_refl _) _) (by simp))
  have K2 : Hid (Blk (w.heap.size + 1) (.cells #[.slice none 0 0, .slice none 0 0, .slice none 0 0, .slice none 0 0] 31) w0) := by
    have h := Blk.new (w.alloc (.cells #[a, b, c, d] 31)) (.cells #[.slice none 0 0, .slice none 0 0, .slice none 0 0, .slice none 0 0] 31)
    rw [alloc_size] at h
    rw [hw0]; exact Lib.hid h
  have hbd : Below w0.heap.size w0 w0.drew := Below.drew (Below.refl _ _)
  have hdz : w0.drew.heap.size = w0.heap.size := rfl
  have HX := Lib.hid ((hx.below hb0 hh).below hbd (by omega))
  have HB := Lib.hid (hb0.trans (hbd.mono (by omega)))
  have K1d := Lib.hid (K1.out.below hbd K1.out.lt)
  have K2d := Lib.hid (K2.out.below hbd K2.out.lt)
  have hS : w0.drew.cell? ⟨w.heap.size, 0, none⟩ = some a ∧ w0.drew.cell? ⟨w.heap.size, 1, none⟩ = some b ∧ w0.drew.cell? ⟨w.heap.size, 2, none⟩ = some c ∧ w0.drew.cell? ⟨w.heap.size, 3, none⟩ = some d := ⟨K1d.out.cell 0, K1d.out.cell 1, K1d.out.cell 2, K1d.out.cell 3⟩
  have HW0 := Lib.hid hw0
  clear hx hb0 hw0 hbd
  go_enter Tryz.func31, Tryz.ntmps31
  go_wp2_with (rw [← HW0.out])
  go_region_held3 (fun w' => w'.cell? ⟨w.heap.size, 0, none⟩ = some a ∧ w'.cell? ⟨w.heap.size, 1, none⟩ = some b ∧ w'.cell? ⟨w.heap.size, 2, none⟩ = some c ∧ w'.cell? ⟨w.heap.size, 3, none⟩ = some d) (first | assumption | go_keep) (first
    | (go_at_call_of 60 a; refine (cloneI_any _ _ a D.first _ HX.out.first (by omega)).mono ?_; rintro e1 w1 ⟨v1, rfl, hbx, ho⟩; obtain ⟨x1, y1, rfl, _⟩ := Own.open ho; (have hz1 := hbx.size); (have HX1 := Lib.hid (HX.out.below hbx (by omega))); (have KA1 := Lib.hid (K1d.out.below hbx K1d.out.lt)); (have KB1 := Lib.hid (K2d.out.below hbx K2d.out.lt)); (have HB1 := Lib.hid (HB.out.trans (hbx.mono HB.out.size))); (have O1_1 := Lib.hid ho); (have hS1 : w1.cell? ⟨w.heap.size, 0, none⟩ = some a ∧ w1.cell? ⟨w.heap.size, 1, none⟩ = some b ∧ w1.cell? ⟨w.heap.size, 2, none⟩ = some c ∧ w1.cell? ⟨w.heap.size, 3, none⟩ = some d := ⟨KA1.out.cell 0, KA1.out.cell 1, KA1.out.cell 2, KA1.out.cell 3⟩); clear hbx ho)
    | (go_at_call_of 60 b; refine (cloneI_any _ _ b D.goal _ HX1.out.goal (by omega)).mono ?_; rintro e2 w2 ⟨v2, rfl, hbx, ho⟩; obtain ⟨x2, y2, rfl, _⟩ := Own.open ho; (have hz2 := hbx.size); (have HX2 := Lib.hid (HX1.out.below hbx (by omega))); (have KA2 := Lib.hid (KA1.out.below hbx KA1.out.lt)); (have KB2 := Lib.hid (KB1.out.below hbx KB1.out.lt)); (have HB2 := Lib.hid (HB1.out.trans (hbx.mono HB1.out.size))); (have O1_2 := Lib.hid (O1_1.out.below hbx (by omega))); (have O2_2 := Lib.hid ho); (have hS2 : w2.cell? ⟨w.heap.size, 0, none⟩ = some a ∧ w2.cell? ⟨w.heap.size, 1, none⟩ = some b ∧ w2.cell? ⟨w.heap.size, 2, none⟩ = some c ∧ w2.cell? ⟨w.heap.size, 3, none⟩ = some d := ⟨KA2.out.cell 0, KA2.out.cell 1, KA2.out.cell 2, KA2.out.cell 3⟩); clear hbx ho)
    | (go_at_call_of 61 c; refine (cloneM_any _ _ c D.made _ HX2.out.made (by omega)).mono ?_; rintro e3 w3 ⟨v3, rfl, hbx, ho⟩; obtain ⟨x3, y3, rfl, _⟩ := Own.open ho; (have hz3 := hbx.size); (have HX3 := Lib.hid (HX2.out.below hbx (by omega))); (have KA3 := Lib.hid (KA2.out.below hbx KA2.out.lt)); (have KB3 := Lib.hid (KB2.out.below hbx KB2.out.lt)); (have HB3 := Lib.hid (HB2.out.trans (hbx.mono HB2.out.size))); (have O1_3 := Lib.hid (O1_2.out.below hbx (by omega))); (have O2_3 := Lib.hid (O2_2.out.below hbx (by omega))); (have O3_3 := Lib.hid ho); (have hS3 : w3.cell? ⟨w.heap.size, 0, none⟩ = some a ∧ w3.cell? ⟨w.heap.size, 1, none⟩ = some b ∧ w3.cell? ⟨w.heap.size, 2, none⟩ = some c ∧ w3.cell? ⟨w.heap.size, 3, none⟩ = some d := ⟨KA3.out.cell 0, KA3.out.cell 1, KA3.out.cell 2, KA3.out.cell 3⟩); clear hbx ho)
    | (go_at_call_of 60 d; refine (cloneI_any _ _ d D.now _ HX3.out.now (by omega)).mono ?_; rintro e4 w4 ⟨v4, rfl, hbx, ho⟩; obtain ⟨x4, y4, rfl, _⟩ := Own.open ho; (have hz4 := hbx.size); (have HX4 := Lib.hid (HX3.out.below hbx (by omega))); (have KA4 := Lib.hid (KA3.out.below hbx KA3.out.lt)); (have KB4 := Lib.hid (KB3.out.below hbx KB3.out.lt)); (have HB4 := Lib.hid (HB3.out.trans (hbx.mono HB3.out.size))); (have O1_4 := Lib.hid (O1_3.out.below hbx (by omega))); (have O2_4 := Lib.hid (O2_3.out.below hbx (by omega))); (have O3_4 := Lib.hid (O3_3.out.below hbx (by omega))); (have O4_4 := Lib.hid ho); (have hS4 : w4.cell? ⟨w.heap.size, 0, none⟩ = some a ∧ w4.cell? ⟨w.heap.size, 1, none⟩ = some b ∧ w4.cell? ⟨w.heap.size, 2, none⟩ = some c ∧ w4.cell? ⟨w.heap.size, 3, none⟩ = some d := ⟨KA4.out.cell 0, KA4.out.cell 1, KA4.out.cell 2, KA4.out.cell 3⟩); (have r0 := KB4.out.cell 0); (have f0 := KB4.out.free 0); (have r1 := KB4.out.cell 1); (have f1 := KB4.out.free 1); (have r2 := KB4.out.cell 2); (have f2 := KB4.out.free 2); (have r3 := KB4.out.cell 3); (have f3 := KB4.out.free 3); clear hbx ho))
  all_goals (
    obtain ⟨wz, hwz⟩ : ∃ wz, wz = (((w4.setCell ⟨w.heap.size + 1, 0, none⟩ (.slice x1 D.first.length y1)).setCell ⟨w.heap.size + 1, 1, none⟩ (.slice x2 D.goal.length y2)).setCell ⟨w.heap.size + 1, 2, none⟩ (.slice x3 D.made.length y3)).setCell ⟨w.heap.size + 1, 3, none⟩ (.slice x4 D.now.length y4) := ⟨_, rfl⟩
    have KZ := KB4.out.set4 (.slice x1 D.first.length y1) (.slice x2 D.goal.length y2) (.slice x3 D.made.length y3) (.slice x4 D.now.length y4)
    have hO := Outside.set4 (w.heap.size + 1) w4 (.slice x1 D.first.length y1) (.slice x2 D.goal.length y2) (.slice x3 D.made.length y3) (.slice x4 D.now.length y4)
    rw [← hwz] at KZ hO
    have hsz := hO.size
    have HZ := Lib.hid (Below.outside HB4.out hO (by omega) HB4.out.size)
    have P1 := Lib.hid (O1_4.out.outside hO (.inr (by omega)))
    have P2 := Lib.hid (O2_4.out.outside hO (.inr (by omega)))
    have P3 := Lib.hid (O3_4.out.outside hO (.inr (by omega)))
    have P4 := Lib.hid (O4_4.out.outside hO (.inr (by omega)))
    have q0 := KZ.cell 0
    have q1 := KZ.cell 1
    have q2 := KZ.cell 2
    have q3 := KZ.cell 3
    clear KZ hO
    go_wp2
    simp only [← hwz]
    clear hwz
    refine bodyPost_ret (v := .agg #[(.slice x1 D.first.length y1), (.slice x2 D.goal.length y2), (.slice x3 D.made.length y3), (.slice x4 D.now.length y4)]) (by simp [results, Tryz.results31, go_sem, q0, q1, q2, q3]) rfl ⟨_, _, _, _, rfl, ?_, HZ.out⟩
    exact ⟨_, _, _, _, _, _, _, _, P1.out, P2.out, P3.out, P4.out, by omega, by omega, by omega, by omega, by omega, by omega, by omega, by omega, by omega, by omega⟩)
end

section

/-- The moves behind an act, if it can be done so far. -/
def madeV (D : Dsk) (a : Ac) : Option (List Mv) :=
  if namedB a then
    if a.kind = 0 then some (D.made ++ [a.step])
    else if a.kind = 1 then (if 1 ≤ a.count ∧ a.count ≤ D.made.length then some (D.made.take (D.made.length - a.count.toNat)) else none)
    else (if simpBy D.now = [] then none else some (D.made ++ simpBy D.now))
  else none
/-- A desk behind an act. -/
def deskDo (D : Dsk) (a : Ac) : Dsk × Bool :=
  if deskV D then
    match (madeV D a).bind fun ms => (proofV D.first ms).map fun x => (ms, x) with
    | some p => (⟨D.first, D.goal, p.1, p.2⟩, true)
    | none => (D, false)
  else (Dsk.none, false)
abbrev aggA (a : Ac) : Value := .agg #[.int .i64 a.kind, .int .i64 a.step.which, .bool a.step.back, .int .i64 a.step.at_, .int .i64 a.count]
theorem SlM.front {lo hi n cap : Nat} {w : World} {a : Option Addr} {xs : List Mv} (h : SlM lo hi w (.slice a n cap) xs) (j : Nat) (hj : j ≤ xs.length) : SlM lo hi w (.slice a j cap) (xs.take j) := by
  obtain ⟨a', cap', e, h1, h2, h3, h4, h5⟩ := h
  injection e with e1 e2 e3
  subst e1 e2 e3
  have hl : (xs.take j).length = j := by simp; omega
  have hxs : mvs xs = mvs (xs.take j) ++ mvs (xs.drop j) := by rw [← mvs_append, List.take_append_drop]
  have ht : mvs (xs.take j) = (mvs xs).take (j * 3) := by
    rw [hxs]
    exact (List.take_left' (by rw [mvs_length, hl])).symm
  refine ⟨_, _, by rw [hl], by rw [hl]; omega, h2, mvs_length _, h4, fun i hi' => ?_⟩
  rw [mvs_length, hl] at hi'
  have hml := mvs_length xs
  obtain ⟨b, off, f1, f2, f3, f4, f5⟩ := h5 i (by omega)
  refine ⟨b, off, f1, f2, f3, f4, ?_⟩
  rw [f5, ht, List.getElem?_take, if_pos (by omega)]
/-- A move laid for itself reads as a row of one. -/
theorem Blk.one_mv {b : Nat} {m : Mv} {t : TypeId} {w : World} (h : Blk b (.cells (encMv m).toArray t) w) : Sl 3 b (b + 1) w (.slice (some ⟨b, 0, none⟩) 1 1) 1 (encMv m) := by
  refine ⟨_, _, rfl, Nat.le_refl _, by unfold maxLen; omega, rfl, (by intro h; cases h), fun i hi => ⟨b, 0, rfl, Nat.le_refl _, by omega, h.lt, ?_⟩⟩
  rw [h.cell]
  simp
/-- Moves and a truth come back. -/
def MadeR (w : World) (r : Option (List Mv)) (v : Value) (ok : Bool) (w' : World) : Prop :=
  Below w.heap.size w w' ∧ ok = r.isSome ∧ (∃ l, OwnM w.heap.size w'.heap.size 39 w' v l) ∧ ∀ ms, r = some ms → OwnM w.heap.size w'.heap.size 39 w' v ms
theorem MadeR.none {w w' : World} {r : Option (List Mv)} (hr : r = Option.none) (hb : Below w.heap.size w w') : MadeR w r (.slice none 0 0) false w' := by
  subst hr
  exact ⟨hb, rfl, ⟨[], Own.nil _ _ _ _ _⟩, fun ms h => by cases h⟩
theorem named_kinds {a : Ac} (h : namedB a = true) : a.kind = 0 ∨ a.kind = 1 ∨ a.kind = 2 := by
  unfold namedB at h
  split at h
  · rename_i h0; exact .inl (by simpa using h0)
  · split at h
    · rename_i h1; exact .inr (.inl (by simpa using h1))
    · split at h
      · rename_i h2; exact .inr (.inr (by simpa using h2))
      · cases h

set_option maxRecDepth 100000 in
set_option maxHeartbeats 6400000 in
theorem madeBy_any (lo hi : Nat) (a b c d : Value) (D : Dsk) (A : Ac) (w : World) (hE : EnvK w) (hx : DeskAt lo hi w a b c d D) (hh : hi ≤ w.heap.size) (hm : D.size ≤ 1048576) :
    Calls Tryz.prog 70 #[aggD a b c d, aggA A] w (RetVB (MadeR w (madeV D A))) := by
  unfold Dsk.size at hm
  obtain ⟨w0, hw0⟩ : ∃ w0, w0 = (w.alloc (.cells #[a, b, c, d] 31)).alloc (.cells #[.int .i64 A.kind, .int .i64 A.step.which, .bool A.step.back, .int .i64 A.step.at_, .int .i64 A.count] 41) := ⟨_, rfl⟩
  have hb0 : Below w.heap.size w w0 := by rw [hw0]; exact ((Below.refl _ _).alloc (Nat.le_refl _) _).alloc (by simp) _
  have hs0 : w0.heap.size = w.heap.size + 2 := by rw [hw0]; simp
  have K1 : Hid (Blk w.heap.size (.cells #[a, b, c, d] 31) w0) := by
    rw [hw0]
    exact Lib.hid ((Blk.new w _).below ((Below.refl (w.alloc _).heap.size _).alloc (Nat.le_refl _) _) (by simp))
  have K2 : Hid (Blk (w.heap.size + 1) (.cells #[.int .i64 A.kind, .int .i64 A.step.which, .bool A.step.back, .int .i64 A.step.at_, .int .i64 A.count] 41) w0) := by
    have h := Blk.new (w.alloc (.cells #[a, b, c, d] 31)) (.cells #[.int .i64 A.kind, .int .i64 A.step.which, .bool A.step.back, .int .i64 A.step.at_, .int .i64 A.count] 41)
    rw [alloc_size] at h
    rw [hw0]; exact Lib.hid h
  have HX := Lib.hid (hx.below hb0 hh)
  have HB := Lib.hid hb0
  have HE := Lib.hid (hE.below hb0)
  have HW0 := Lib.hid hw0
  have a0 := K2.out.cell 0
  have a1 := K2.out.cell 1
  have a2 := K2.out.cell 2
  have a3 := K2.out.cell 3
  have a4 := K2.out.cell 4
  clear hx hE hb0 hw0
  obtain ⟨nb, hnb⟩ : ∃ nb, nb = namedB A := ⟨_, rfl⟩
  have HNB := Lib.hid hnb
  clear hnb
  go_enter Tryz.func70, Tryz.ntmps70
  go_wp2_with (rw [← HW0.out])
  refine (named_any A w0).mono ?_
  rintro e1 w1 ⟨rfl, hb1⟩
  rw [← HNB.out]
  have HB1 := Lib.hid (HB.out.trans (hb1.mono (by omega)))
  have hs1 := hb1.size
  replace K1 := Lib.hid (K1.out.below hb1 K1.out.lt)
  replace K2 := Lib.hid (K2.out.below hb1 K2.out.lt)
  replace HX := Lib.hid (HX.out.below hb1 (by omega))
  replace HE := Lib.hid (HE.out.below hb1)
  clear hb1 a0 a1 a2 a3 a4 HB
  have a0 := K2.out.cell 0
  have a4 := K2.out.cell 4
  have d2 := K1.out.cell 2
  have d3 := K1.out.cell 3
  cases nb
  · have HR := Lib.hid (show madeV D A = none by simp [madeV, ← HNB.out])
    go_wp2
    go_ret2
    exact ⟨_, _, rfl, MadeR.none HR.out HB1.out⟩
  · rcases named_kinds HNB.out.symm with hk | hk | hk
    · have HR := Lib.hid (show madeV D A = some (D.made ++ [A.step]) by simp [madeV, ← HNB.out, hk])
      rw [hk] at a0
      clear hk
      go_wp2_with fail
      have hbA : Below w1.heap.size w1 w1.drew := Below.drew (Below.refl _ _)
      have hdA : w1.drew.heap.size = w1.heap.size := rfl
      have hbB : Below w1.heap.size w1 (w1.alloc (.cells #[.int .i64 A.step.which, .bool A.step.back, .int .i64 A.step.at_] 39)).drew := Below.drew ((Below.refl _ _).alloc (Nat.le_refl _) _)
      have hdB : (w1.alloc (.cells #[.int .i64 A.step.which, .bool A.step.back, .int .i64 A.step.at_] 39)).drew.heap.size = w1.heap.size + 1 := by show (w1.alloc _).heap.size = _; simp
      have KLB : Hid (Blk w1.heap.size (.cells (encMv A.step).toArray 39) (w1.alloc (.cells #[.int .i64 A.step.which, .bool A.step.back, .int .i64 A.step.at_] 39)).drew) := Lib.hid (Blk.new w1 _)
      have HBA := Lib.hid (HB1.out.trans (hbA.mono HB1.out.size))
      have HBB := Lib.hid (HB1.out.trans (hbB.mono HB1.out.size))
      have HXA := Lib.hid (HX.out.below hbA (by omega))
      have HXB := Lib.hid (HX.out.below hbB (by omega))
      have K1A := Lib.hid (K1.out.below hbA K1.out.lt)
      have K1B := Lib.hid (K1.out.below hbB K1.out.lt)
      have K2A := Lib.hid (K2.out.below hbA K2.out.lt)
      have K2B := Lib.hid (K2.out.below hbB K2.out.lt)
      have hl1 := K1.out.lt
      have hl2 := K2.out.lt
      have hS1 : w1.cell? ⟨w.heap.size, 2, none⟩ = some c ∧ w1.cell? ⟨w.heap.size + 1, 1, none⟩ = some (.int .i64 A.step.which) ∧ w1.cell? ⟨w.heap.size + 1, 2, none⟩ = some (.bool A.step.back) ∧ w1.cell? ⟨w.heap.size + 1, 3, none⟩ = some (.int .i64 A.step.at_) := ⟨K1.out.cell 2, K2.out.cell 1, K2.out.cell 2, K2.out.cell 3⟩
      have hSA : w1.drew.cell? ⟨w.heap.size, 2, none⟩ = some c ∧ w1.drew.cell? ⟨w.heap.size + 1, 1, none⟩ = some (.int .i64 A.step.which) ∧ w1.drew.cell? ⟨w.heap.size + 1, 2, none⟩ = some (.bool A.step.back) ∧ w1.drew.cell? ⟨w.heap.size + 1, 3, none⟩ = some (.int .i64 A.step.at_) := hS1
      have hSB : (w1.alloc (.cells #[.int .i64 A.step.which, .bool A.step.back, .int .i64 A.step.at_] 39)).drew.cell? ⟨w.heap.size, 2, none⟩ = some c ∧ (w1.alloc (.cells #[.int .i64 A.step.which, .bool A.step.back, .int .i64 A.step.at_] 39)).drew.cell? ⟨w.heap.size + 1, 1, none⟩ = some (.int .i64 A.step.which) ∧ (w1.alloc (.cells #[.int .i64 A.step.which, .bool A.step.back, .int .i64 A.step.at_] 39)).drew.cell? ⟨w.heap.size + 1, 2, none⟩ = some (.bool A.step.back) ∧ (w1.alloc (.cells #[.int .i64 A.step.which, .bool A.step.back, .int .i64 A.step.at_] 39)).drew.cell? ⟨w.heap.size + 1, 3, none⟩ = some (.int .i64 A.step.at_) := by
        have k1 := K1.out.below hbB K1.out.lt
        have k2 := K2.out.below hbB K2.out.lt
        exact ⟨k1.cell 2, k2.cell 1, k2.cell 2, k2.cell 3⟩
      clear hbA hbB d2 d3 a0 a4
      go_region_held3 (fun w' => w'.cell? ⟨w.heap.size, 2, none⟩ = some c ∧ w'.cell? ⟨w.heap.size + 1, 1, none⟩ = some (.int .i64 A.step.which) ∧ w'.cell? ⟨w.heap.size + 1, 2, none⟩ = some (.bool A.step.back) ∧ w'.cell? ⟨w.heap.size + 1, 3, none⟩ = some (.int .i64 A.step.at_)) (first | assumption | go_keep) (first
        | (go_at_call 61; refine (cloneM_any lo hi c D.made _ (by first | exact HXA.out.made | exact HXB.out.made) (by omega)).mono ?_; rintro e3 w3 ⟨v3, rfl, hb3, ho3⟩; (have hz3 := hb3.size); (have HB3 : Hid (Below w.heap.size w w3) := Lib.hid (by first | exact HBA.out.trans (hb3.mono (by omega)) | exact HBB.out.trans (hb3.mono (by omega)))); (have KA1 : Hid (Blk w.heap.size (.cells #[a, b, c, d] 31) w3) := Lib.hid (by first | exact K1A.out.below hb3 (by omega) | exact K1B.out.below hb3 (by omega))); (have KA2 : Hid (Blk (w.heap.size + 1) (.cells #[.int .i64 A.kind, .int .i64 A.step.which, .bool A.step.back, .int .i64 A.step.at_, .int .i64 A.count] 41) w3) := Lib.hid (by first | exact K2A.out.below hb3 (by omega) | exact K2B.out.below hb3 (by omega))); (have hS3 : w3.cell? ⟨w.heap.size, 2, none⟩ = some c ∧ w3.cell? ⟨w.heap.size + 1, 1, none⟩ = some (.int .i64 A.step.which) ∧ w3.cell? ⟨w.heap.size + 1, 2, none⟩ = some (.bool A.step.back) ∧ w3.cell? ⟨w.heap.size + 1, 3, none⟩ = some (.int .i64 A.step.at_) := ⟨KA1.out.cell 2, KA2.out.cell 1, KA2.out.cell 2, KA2.out.cell 3⟩); (have HO3 := Lib.hid ho3); (try have KL3 := Lib.hid (KLB.out.below hb3 (by omega))); obtain ⟨xa, xc, rfl, _⟩ := Own.open ho3; clear hb3 ho3)
        | (refine step_app_sl (by rfl) _ _ 29 (by rfl) 39 (.agg #[.int .i64 0, .bool false, .int .i64 0]) 3 24 Tryz.underlying29 info_mv (by rfl) (by decide) (by decide) (by rfl) (by first | exact Own.below HO3.out ((Below.refl _ _).alloc (Nat.le_refl _) _) (Nat.le_refl _) | exact HO3.out) (by rfl) (by first | exact KL3.out.one_mv | exact (Blk.new w3 _).one_mv) (encMv_one A.step) (by omega) (by first | omega | (simp only [alloc_size]; omega)) ?_; intro v5 w5 ho5 hout5; (have hz5 := hout5.size); (have KC1 : Hid (Blk w.heap.size (.cells #[a, b, c, d] 31) w5) := Lib.hid (by first | exact (KA1.out.below ((Below.refl w3.heap.size w3).alloc (Nat.le_refl _) _) KA1.out.lt).outside hout5 (by omega) | exact KA1.out.outside hout5 (by omega))); (have KC2 : Hid (Blk (w.heap.size + 1) (.cells #[.int .i64 A.kind, .int .i64 A.step.which, .bool A.step.back, .int .i64 A.step.at_, .int .i64 A.count] 41) w5) := Lib.hid (by first | exact (KA2.out.below ((Below.refl w3.heap.size w3).alloc (Nat.le_refl _) _) KA2.out.lt).outside hout5 (by omega) | exact KA2.out.outside hout5 (by omega))); (have hS5 : w5.cell? ⟨w.heap.size, 2, none⟩ = some c ∧ w5.cell? ⟨w.heap.size + 1, 1, none⟩ = some (.int .i64 A.step.which) ∧ w5.cell? ⟨w.heap.size + 1, 2, none⟩ = some (.bool A.step.back) ∧ w5.cell? ⟨w.heap.size + 1, 3, none⟩ = some (.int .i64 A.step.at_) := ⟨KC1.out.cell 2, KC2.out.cell 1, KC2.out.cell 2, KC2.out.cell 3⟩); (have HB5 : Hid (Below w.heap.size w w5) := Lib.hid (by first | exact Below.outside (HB3.out.alloc (by omega) _) hout5 (by omega) (by simp; omega) | exact Below.outside HB3.out hout5 (by omega) (by omega))); (have HO5 : Hid (OwnM w.heap.size w5.heap.size 39 w5 v5 (D.made ++ [A.step])) := Lib.hid (by unfold OwnM; rw [List.length_append, mvs_append]; exact Own.wide2 ho5 (by omega) (Nat.le_refl _))); obtain ⟨ya, yc, rfl, _⟩ := Own.open ho5; clear ho5 hout5))
      all_goals (
        go_wp2
        go_ret2
        refine ⟨_, _, rfl, HB5.out, by rw [HR.out]; rfl, ⟨_, HO5.out⟩, fun ms h => ?_⟩
        rw [HR.out] at h
        injection h with h
        subst h
        exact HO5.out)
    · rw [hk] at a0
      obtain ⟨ma, mc, hce, hmc1, hmc2⟩ := HX.out.made.shape
      subst hce
      unfold maxLen at hmc2
      by_cases h1 : 1 ≤ A.count ∧ A.count ≤ D.made.length
      · obtain ⟨k, hk2, hkl⟩ : ∃ k : Nat, (D.made.length : Int) - A.count = k ∧ k ≤ D.made.length := ⟨((D.made.length : Int) - A.count).toNat, by omega, by omega⟩
        have HR := Lib.hid (show madeV D A = some (D.made.take k) by
          simp only [madeV, ← HNB.out, hk, if_pos h1]
          rw [show D.made.length - A.count.toNat = k by omega]
          simp)
        have HF := Lib.hid (HX.out.made.front k hkl)
        have g1 : ¬ A.count < 1 := by omega
        have g2 : ¬ (D.made.length : Int) < A.count := by omega
        have g3 : (0 : Int) ≤ k := by omega
        have g4 : (k : Int) ≤ mc := by omega
        have g5 : k ≤ mc := by omega
        have hlk : (D.made.take k).length = k := by simp; omega
        clear hk h1
        go_wp2_with fail
        refine (cloneM_any _ _ _ (D.made.take k) w1 HF.out (by omega)).mono ?_
        rintro e3 w3 ⟨v3, rfl, hb3, ho3⟩
        have HB3 := Lib.hid (HB1.out.trans (hb3.mono HB1.out.size))
        have HO3 : Hid (OwnM w.heap.size w3.heap.size 39 w3 v3 (D.made.take k)) := Lib.hid (Own.wide2 ho3 HB1.out.size (Nat.le_refl _))
        have HLK := Lib.hid hlk
        obtain ⟨xa, xc, rfl, _⟩ := Own.open ho3
        clear hb3 ho3 hlk
        go_wp2
        rw [HLK.out] at HO3
        go_ret2
        refine ⟨_, _, rfl, HB3.out, by rw [HR.out]; rfl, ⟨_, HO3.out⟩, fun ms h => ?_⟩
        rw [HR.out] at h
        injection h with h
        subst h
        exact HO3.out
      · have HR := Lib.hid (show madeV D A = none by
          simp only [madeV, ← HNB.out, hk, if_neg h1]
          simp)
        have hcs : A.count < 1 ∨ (¬ A.count < 1 ∧ (D.made.length : Int) < A.count) := by omega
        clear hk h1
        rcases hcs with g1 | ⟨g1, g2⟩
        all_goals (
          go_wp2
          go_ret2
          exact ⟨_, _, rfl, MadeR.none HR.out HB1.out⟩)
    · rw [hk] at a0
      have HR := Lib.hid (show madeV D A = (if simpBy D.now = [] then none else some (D.made ++ simpBy D.now)) by simp [madeV, ← HNB.out, hk])
      have hsl := simpBy_len D.now
      clear hk
      go_wp2_with fail
      refine (impl_SimpleBy _ D.now w1 HE.out (SlI.rd HX.out.now (by omega)) (by omega)).mono ?_
      rintro e3 w3 ⟨v3, rfl, hb3, ho3⟩
      have hs3 := hb3.size
      have HB3 := Lib.hid (HB1.out.trans (hb3.mono HB1.out.size))
      replace K1 := Lib.hid (K1.out.below hb3 K1.out.lt)
      replace HX := Lib.hid (HX.out.below hb3 (by omega))
      have HS3 := Lib.hid ho3.sl
      obtain ⟨xa, xc, rfl, _⟩ := Own.open ho3
      clear hb3 ho3 a0 a4 d2 d3
      have d2 := K1.out.cell 2
      go_wp2_with fail
      refine (cloneM_any _ _ _ D.made w3 HX.out.made (by omega)).mono ?_
      rintro e4 w4 ⟨v4, rfl, hb4, ho4⟩
      have hs4 := hb4.size
      have HB4 := Lib.hid (HB3.out.trans (hb4.mono HB3.out.size))
      replace HS3 := Lib.hid (HS3.out.below hb4 (Nat.le_refl _))
      have HO4 := Lib.hid ho4
      obtain ⟨ya, yc, rfl, _⟩ := Own.open ho4
      have hsz3 := HB3.out.size
      clear hb4 ho4 d2
      generalize simpBy D.now = sm at HR HS3 hsl
      have hp : ((0 : Int) < sm.length) = (0 < sm.length) := by simp
      by_cases hsm : sm = []
      · subst hsm
        go_wp2_with (at_builtin; go_loud (refine wpList_app_sl rfl _ _ 29 rfl 39 (.agg #[.int .i64 0, .bool false, .int .i64 0]) 3 24 Tryz.underlying29 info_mv rfl (by decide) (by decide) rfl HO4.out rfl HS3.out (mvs_one _) (by simp; omega) (by omega) ?_))
        intro v5 w5 ho5 _ hout5 _
        have HB5 := Lib.hid (Below.outside HB4.out hout5 hsz3 (by omega))
        have HO5 := Lib.hid (Own.wide2 ho5 hsz3 (Nat.le_refl _))
        obtain ⟨za, zc, rfl, _⟩ := Own.open ho5
        clear ho5 hout5
        go_wp2
        go_ret2
        refine ⟨_, _, rfl, HB5.out, by rw [HR.out]; rfl, ⟨D.made, ?_⟩, fun ms h => ?_⟩
        · have h := HO5.out
          simpa [OwnM, mvs] using h
        · rw [HR.out] at h
          cases h
      · have hpos : 0 < sm.length := List.length_pos_iff.2 hsm
        rw [if_neg hsm] at HR
        clear hsm
        go_wp2_with (at_builtin; go_loud (refine wpList_app_sl rfl _ _ 29 rfl 39 (.agg #[.int .i64 0, .bool false, .int .i64 0]) 3 24 Tryz.underlying29 info_mv rfl (by decide) (by decide) rfl HO4.out rfl HS3.out (mvs_one _) (by omega) (by omega) ?_))
        intro v5 w5 ho5 _ hout5 _
        have HB5 := Lib.hid (Below.outside HB4.out hout5 hsz3 (by omega))
        have HO5 : Hid (OwnM w.heap.size w5.heap.size 39 w5 v5 (D.made ++ sm)) := by
          refine Lib.hid ?_
          unfold OwnM
          rw [List.length_append, mvs_append]
          exact Own.wide2 ho5 hsz3 (Nat.le_refl _)
        obtain ⟨za, zc, rfl, _⟩ := Own.open ho5
        clear ho5 hout5
        go_wp2
        go_ret2
        refine ⟨_, _, rfl, HB5.out, by rw [HR.out]; rfl, ⟨_, HO5.out⟩, fun ms h => ?_⟩
        rw [HR.out] at h
        injection h with h
        subst h
        exact HO5.out
end

section

def RetDB (P : Value → Value → Value → Value → Bool → World → Prop) (e : Ending) (w' : World) : Prop := ∃ a b c d ok, e = .returned (.tuple #[aggD a b c d, .bool ok]) ∧ P a b c d ok w'
theorem RetDB.mk {P : Value → Value → Value → Value → Bool → World → Prop} {e : Ending} {w' : World} (a b c d : Value) (ok : Bool) (h : e = .returned (.tuple #[aggD a b c d, .bool ok])) (hp : P a b c d ok w') : RetDB P e w' := ⟨a, b, c, d, ok, h, hp⟩
theorem madeV_len {D : Dsk} {A : Ac} {x : List Int} {ms : List Mv} (hx : proofV D.first D.made = some x) (h : madeV D A = some ms) : ms.length ≤ 1048576 := by
  have h1 : D.made.length ≤ 60 := by
    unfold proofV at hx
    split at hx
    · rename_i h2; simp at h2; exact h2.2
    · cases hx
  have h3 := simpBy_len D.now
  unfold madeV at h
  repeat' split at h
  all_goals first
    | (cases h; simp; omega)
    | (cases h; done)
theorem DeskOwn.open {lo hi : Nat} {w : World} {a b c d : Value} {D : Dsk} (h : DeskOwn lo hi w a b c d D) : ∃ x0 y0 x1 y1 x2 y2 x3 y3, a = .slice x0 D.first.length y0 ∧ b = .slice x1 D.goal.length y1 ∧ c = .slice x2 D.made.length y2 ∧ d = .slice x3 D.now.length y3 := by
  obtain ⟨_, _, _, _, _, _, _, _, p0, p1, p2, p3, _⟩ := h.ranges
  obtain ⟨x0, y0, e0, _⟩ := Own.open p0
  obtain ⟨x1, y1, e1, _⟩ := Own.open p1
  obtain ⟨x2, y2, e2, _⟩ := Own.open p2
  obtain ⟨x3, y3, e3, _⟩ := Own.open p3
  exact ⟨x0, y0, x1, y1, x2, y2, x3, y3, e0, e1, e2, e3⟩
/-- A fresh desk and a truth are handed back. -/
abbrev DoneR (w : World) (r : Dsk × Bool) : Ending → World → Prop := RetDB fun a b c d ok w' => DeskOwn w.heap.size w'.heap.size w' a b c d r.1 ∧ ok = r.2 ∧ Below w.heap.size w w'

set_option maxRecDepth 100000 in
set_option maxHeartbeats 3200000 in
theorem impl_DeskDo (lo hi : Nat) (a b c d : Value) (D : Dsk) (A : Ac) (w : World) (hE : EnvK w) (hx : DeskAt lo hi w a b c d D) (hh : hi ≤ w.heap.size) (hm : D.size ≤ 1048576) :
    Calls Tryz.prog 33 #[aggD a b c d, aggA A] w (DoneR w (deskDo D A)) := by
  have HM := Lib.hid hm
  unfold Dsk.size at hm
  obtain ⟨w0, hw0⟩ : ∃ w0, w0 = ((w.alloc (.cells #[a, b, c, d] 31)).alloc (.cells #[.int .i64 A.kind, .int .i64 A.step.which, .bool A.step.back, .int .i64 A.step.at_, .int .i64 A.count] 41)).alloc (.cells #[.slice none 0 0, .slice none 0 0, .slice none 0 0, .slice none 0 0] 31) := ⟨_, rfl⟩
  have hb0 : Below w.heap.size w w0 := by rw [hw0]; exact (((Below.refl _ _).alloc (Nat.le_refl _) _).alloc (by simp) _).alloc (by simp; omega) _
  have hs0 : w0.heap.size = w.heap.size + 3 := by rw [hw0]; simp
  have K1 : Hid (Blk w.heap.size (.cells #[a, b, c, d] 31) w0) := by
    rw [hw0]
    exact Lib.hid (((Blk.new w _).below ((Below.refl (w.alloc _).heap.size _).alloc (Nat.le_refl _) _) (by simp)).below ((Below.refl ((w.alloc _).alloc _).heap.size _).alloc (Nat.le_refl _) _) (by simp; omega))
  have K2 : Hid (Blk (w.heap.size + 1) (.cells #[.int .i64 A.kind, .int .i64 A.step.which, .bool A.step.back, .int .i64 A.step.at_, .int .i64 A.count] 41) w0) := by
    have h := (Blk.new (w.alloc (.cells #[a, b, c, d] 31)) (.cells #[.int .i64 A.kind, .int .i64 A.step.which, .bool A.step.back, .int .i64 A.step.at_, .int .i64 A.count] 41)).below ((Below.refl ((w.alloc (.cells #[a, b, c, d] 31)).alloc (.cells #[.int .i64 A.kind, .int .i64 A.step.which, .bool A.step.back, .int .i64 A.step.at_, .int .i64 A.count] 41)).heap.size _).alloc (o := (.cells #[.slice none 0 0, .slice none 0 0, .slice none 0 0, .slice none 0 0] 31)) (Nat.le_refl _)) (by simp)
    rw [alloc_size] at h
    rw [hw0]; exact Lib.hid h
  have K3 : Hid (Blk (w.heap.size + 1 + 1) (.cells #[.slice none 0 0, .slice none 0 0, .slice none 0 0, .slice none 0 0] 31) w0) := by
    have h := Blk.new ((w.alloc (.cells #[a, b, c, d] 31)).alloc (.cells #[.int .i64 A.kind, .int .i64 A.step.which, .bool A.step.back, .int .i64 A.step.at_, .int .i64 A.count] 41)) (.cells #[.slice none 0 0, .slice none 0 0, .slice none 0 0, .slice none 0 0] 31)
    rw [alloc_size, alloc_size] at h
    rw [hw0]; exact Lib.hid h
  have HX := Lib.hid (hx.below hb0 hh)
  have HB := Lib.hid hb0
  have HE := Lib.hid (hE.below hb0)
  have HW0 := Lib.hid hw0
  clear hx hE hb0 hw0
  obtain ⟨dv, hdv⟩ : ∃ dv, dv = deskV D := ⟨_, rfl⟩
  have HDV := Lib.hid hdv
  clear hdv
  have d0 := K1.out.cell 0
  have d1 := K1.out.cell 1
  have d2 := K1.out.cell 2
  have d3 := K1.out.cell 3
  have a0 := K2.out.cell 0
  have a1 := K2.out.cell 1
  have a2 := K2.out.cell 2
  have a3 := K2.out.cell 3
  have a4 := K2.out.cell 4
  go_enter Tryz.func33, Tryz.ntmps33
  go_wp2_with (rw [← HW0.out])
  refine (impl_DeskValid _ _ a b c d D w0 HE.out HX.out (by omega) HM.out).mono ?_
  rintro e1 w1 ⟨rfl, hb1⟩
  rw [← HDV.out]
  have hs1 := hb1.size
  replace HB := Lib.hid (HB.out.trans (hb1.mono (by omega)))
  replace K1 := Lib.hid (K1.out.below hb1 K1.out.lt)
  replace K2 := Lib.hid (K2.out.below hb1 K2.out.lt)
  replace K3 := Lib.hid (K3.out.below hb1 K3.out.lt)
  replace HX := Lib.hid (HX.out.below hb1 (by omega))
  replace HE := Lib.hid (HE.out.below hb1)
  clear hb1 d0 d1 d2 d3 a0 a1 a2 a3 a4
  have d0 := K1.out.cell 0
  have d1 := K1.out.cell 1
  have d2 := K1.out.cell 2
  have d3 := K1.out.cell 3
  have a0 := K2.out.cell 0
  have a1 := K2.out.cell 1
  have a2 := K2.out.cell 2
  have a3 := K2.out.cell 3
  have a4 := K2.out.cell 4
  cases dv
  · have HD := Lib.hid (show deskDo D A = (Dsk.none, false) by simp [deskDo, ← HDV.out])
    have f0 := K3.out.free 0
    have f1 := K3.out.free 1
    have f2 := K3.out.free 2
    have f3 := K3.out.free 3
    have c0 := K3.out.cell 0
    have c1 := K3.out.cell 1
    have c2 := K3.out.cell 2
    have c3 := K3.out.cell 3
    obtain ⟨wz, hwz⟩ : ∃ wz, wz = (((w1.setCell ⟨w.heap.size + 1 + 1, 0, none⟩ (.slice none 0 0)).setCell ⟨w.heap.size + 1 + 1, 1, none⟩ (.slice none 0 0)).setCell ⟨w.heap.size + 1 + 1, 2, none⟩ (.slice none 0 0)).setCell ⟨w.heap.size + 1 + 1, 3, none⟩ (.slice none 0 0) := ⟨_, rfl⟩
    have KZ := K3.out.set4 (.slice none 0 0) (.slice none 0 0) (.slice none 0 0) (.slice none 0 0)
    have hO := Outside.set4 (w.heap.size + 1 + 1) w1 (.slice none 0 0) (.slice none 0 0) (.slice none 0 0) (.slice none 0 0)
    rw [← hwz] at KZ hO
    have hsz := hO.size
    have HZ := Lib.hid (Below.outside HB.out hO (by omega) (by omega))
    have HOZ := Lib.hid hO
    have q0 := KZ.cell 0
    have q1 := KZ.cell 1
    have q2 := KZ.cell 2
    have q3 := KZ.cell 3
    clear KZ hO
    go_wp2
    simp only [← hwz]
    clear hwz
    refine bodyPost_ret (v := .tuple #[aggD (.slice none 0 0) (.slice none 0 0) (.slice none 0 0) (.slice none 0 0), .bool false]) (by simp [results, Tryz.results33, go_sem, q0, q1, q2, q3]) rfl (RetDB.mk _ _ _ _ _ rfl ⟨?_, ?_, HZ.out⟩)
    · rw [HD.out]
      exact DeskOwn.nils _ _ HZ.out.size _
    · rw [HD.out]
  · go_wp2_with fail
    obtain ⟨ma, mc, hce, hmc1, hmc2⟩ := HX.out.made.shape
    refine (madeBy_any _ _ a b c d D A w1 HE.out HX.out (by omega) HM.out).mono ?_
    rintro e2 w2 ⟨vm, ok1, rfl, hb2, hok1, ⟨lm, hlm⟩, hms⟩
    obtain ⟨xa, xc, rfl, _⟩ := Own.open hlm
    have hs2 := hb2.size
    replace HB := Lib.hid (HB.out.trans (hb2.mono (by omega)))
    replace K1 := Lib.hid (K1.out.below hb2 K1.out.lt)
    replace K2 := Lib.hid (K2.out.below hb2 K2.out.lt)
    replace K3 := Lib.hid (K3.out.below hb2 K3.out.lt)
    replace HX := Lib.hid (HX.out.below hb2 (by omega))
    replace HE := Lib.hid (HE.out.below hb2)
    clear hb2 d0 d1 d2 d3 a0 a1 a2 a3 a4
    have d0 := K1.out.cell 0
    have d1 := K1.out.cell 1
    have d2 := K1.out.cell 2
    have d3 := K1.out.cell 3
    have HOK1 := Lib.hid hok1
    have HMS := Lib.hid hms
    clear hok1 hms hce
    obtain ⟨r1, hr1⟩ : ∃ r1, r1 = madeV D A := ⟨_, rfl⟩
    rw [← hr1] at HOK1 HMS
    have HR1 := Lib.hid hr1
    clear hr1
    cases r1 with
    | none =>
      obtain rfl : ok1 = false := HOK1.out
      have HD := Lib.hid (show deskDo D A = (D, false) by simp [deskDo, ← HDV.out, ← HR1.out])
      go_wp2_with fail
      refine (desk_clone _ _ a b c d D w2 HX.out (by omega) HM.out).mono ?_
      rintro e3 w3 ⟨x0, x1, x2, x3, rfl, ho3, hb3⟩
      have hs3 := hb3.size
      replace HB := Lib.hid (HB.out.trans (hb3.mono (by omega)))
      replace K3 := Lib.hid (K3.out.below hb3 K3.out.lt)
      have HO3 := Lib.hid ho3
      obtain ⟨x0, y0, x1, y1, x2, y2, x3, y3, rfl, rfl, rfl, rfl⟩ := ho3.open
      clear hb3 ho3 d0 d1 d2 d3
      have f0 := K3.out.free 0
      have f1 := K3.out.free 1
      have f2 := K3.out.free 2
      have f3 := K3.out.free 3
      have c0 := K3.out.cell 0
      have c1 := K3.out.cell 1
      have c2 := K3.out.cell 2
      have c3 := K3.out.cell 3
      obtain ⟨wz, hwz⟩ : ∃ wz, wz = (((w3.setCell ⟨w.heap.size + 1 + 1, 0, none⟩ (.slice x0 D.first.length y0)).setCell ⟨w.heap.size + 1 + 1, 1, none⟩ (.slice x1 D.goal.length y1)).setCell ⟨w.heap.size + 1 + 1, 2, none⟩ (.slice x2 D.made.length y2)).setCell ⟨w.heap.size + 1 + 1, 3, none⟩ (.slice x3 D.now.length y3) := ⟨_, rfl⟩
      have KZ := K3.out.set4 (.slice x0 D.first.length y0) (.slice x1 D.goal.length y1) (.slice x2 D.made.length y2) (.slice x3 D.now.length y3)
      have hO := Outside.set4 (w.heap.size + 1 + 1) w3 (.slice x0 D.first.length y0) (.slice x1 D.goal.length y1) (.slice x2 D.made.length y2) (.slice x3 D.now.length y3)
      rw [← hwz] at KZ hO
      have hsz := hO.size
      have HZ := Lib.hid (Below.outside HB.out hO (by omega) (by omega))
      have HOZ := Lib.hid hO
      have q0 := KZ.cell 0
      have q1 := KZ.cell 1
      have q2 := KZ.cell 2
      have q3 := KZ.cell 3
      clear KZ hO
      go_wp2
      simp only [← hwz]
      clear hwz
      refine bodyPost_ret (v := .tuple #[aggD (.slice x0 D.first.length y0) (.slice x1 D.goal.length y1) (.slice x2 D.made.length y2) (.slice x3 D.now.length y3), .bool false]) (by simp [results, Tryz.results33, go_sem, q0, q1, q2, q3]) rfl (RetDB.mk _ _ _ _ _ rfl ⟨?_, ?_, HZ.out⟩)
      · rw [HD.out]
        exact (HO3.out.outside HOZ.out (.inr (by omega))).wide (by omega) (by omega)
      · rw [HD.out]
    | some ms =>
      obtain rfl : ok1 = true := HOK1.out
      have hm2 := HMS.out ms rfl
      obtain ⟨xb, yb, hxe, _⟩ := Own.open hm2
      have HM2 := Lib.hid hm2
      obtain ⟨x, hx⟩ : ∃ x, proofV D.first D.made = some x := by
        have h := HDV.out
        unfold deskV at h
        cases hp : proofV D.first D.made with
        | none => rw [hp] at h; cases h
        | some x => exact ⟨x, rfl⟩
      have hml : ms.length ≤ 1048576 := madeV_len hx HR1.out.symm
      clear hlm hm2 hxe hx
      go_wp2_with fail
      refine (impl_ProofRun _ _ _ _ a _ D.first ms w2 HE.out HX.out.first (by omega) (OwnM.sl HM2.out) hml).mono ?_
      rintro e3 w3 ⟨v3, ok3, rfl, hb3, hok3, ho3⟩
      obtain ⟨xn, yn, rfl, _⟩ := Own.open ho3
      have hs3 := hb3.size
      replace HB := Lib.hid (HB.out.trans (hb3.mono (by omega)))
      replace K1 := Lib.hid (K1.out.below hb3 K1.out.lt)
      replace K3 := Lib.hid (K3.out.below hb3 K3.out.lt)
      replace HX := Lib.hid (HX.out.below hb3 (by omega))
      replace HM2 := Lib.hid (OwnM.below HM2.out hb3 (Nat.le_refl _))
      have HO3 := Lib.hid ho3
      have HOK3 := Lib.hid hok3
      clear hb3 ho3 hok3 d0 d1 d2 d3
      have d0 := K1.out.cell 0
      have d1 := K1.out.cell 1
      have d2 := K1.out.cell 2
      have d3 := K1.out.cell 3
      obtain ⟨r2, hr2⟩ : ∃ r2, r2 = proofV D.first ms := ⟨_, rfl⟩
      rw [← hr2] at HOK3 HO3
      have HR2 := Lib.hid hr2
      clear hr2
      cases r2 with
      | none =>
        obtain rfl : ok3 = false := HOK3.out
        have HD := Lib.hid (show deskDo D A = (D, false) by simp [deskDo, ← HDV.out, ← HR1.out, ← HR2.out])
        go_wp2_with fail
        refine (desk_clone _ _ a b c d D w3 HX.out (by omega) HM.out).mono ?_
        rintro e4 w4 ⟨z0, z1, z2, z3, rfl, ho4, hb4⟩
        have hs4 := hb4.size
        replace HB := Lib.hid (HB.out.trans (hb4.mono (by omega)))
        replace K3 := Lib.hid (K3.out.below hb4 K3.out.lt)
        have HO4 := Lib.hid ho4
        obtain ⟨x0, y0, x1, y1, x2, y2, x3, y3, rfl, rfl, rfl, rfl⟩ := ho4.open
        clear hb4 ho4 d0 d1 d2 d3
        have f0 := K3.out.free 0
        have f1 := K3.out.free 1
        have f2 := K3.out.free 2
        have f3 := K3.out.free 3
        have c0 := K3.out.cell 0
        have c1 := K3.out.cell 1
        have c2 := K3.out.cell 2
        have c3 := K3.out.cell 3
        obtain ⟨wz, hwz⟩ : ∃ wz, wz = (((w4.setCell ⟨w.heap.size + 1 + 1, 0, none⟩ (.slice x0 D.first.length y0)).setCell ⟨w.heap.size + 1 + 1, 1, none⟩ (.slice x1 D.goal.length y1)).setCell ⟨w.heap.size + 1 + 1, 2, none⟩ (.slice x2 D.made.length y2)).setCell ⟨w.heap.size + 1 + 1, 3, none⟩ (.slice x3 D.now.length y3) := ⟨_, rfl⟩
        have KZ := K3.out.set4 (.slice x0 D.first.length y0) (.slice x1 D.goal.length y1) (.slice x2 D.made.length y2) (.slice x3 D.now.length y3)
        have hO := Outside.set4 (w.heap.size + 1 + 1) w4 (.slice x0 D.first.length y0) (.slice x1 D.goal.length y1) (.slice x2 D.made.length y2) (.slice x3 D.now.length y3)
        rw [← hwz] at KZ hO
        have hsz := hO.size
        have HZ := Lib.hid (Below.outside HB.out hO (by omega) (by omega))
        have HOZ := Lib.hid hO
        have q0 := KZ.cell 0
        have q1 := KZ.cell 1
        have q2 := KZ.cell 2
        have q3 := KZ.cell 3
        clear KZ hO
        go_wp2
        simp only [← hwz]
        clear hwz
        refine bodyPost_ret (v := .tuple #[aggD (.slice x0 D.first.length y0) (.slice x1 D.goal.length y1) (.slice x2 D.made.length y2) (.slice x3 D.now.length y3), .bool false]) (by simp [results, Tryz.results33, go_sem, q0, q1, q2, q3]) rfl (RetDB.mk _ _ _ _ _ rfl ⟨?_, ?_, HZ.out⟩)
        · rw [HD.out]
          exact (HO4.out.outside HOZ.out (.inr (by omega))).wide (by omega) (by omega)
        · rw [HD.out]
      | some x =>
        obtain rfl : ok3 = true := HOK3.out
        go_wp2_with fail
        refine (desk_clone _ _ a b c d D w3 HX.out (by omega) HM.out).mono ?_
        rintro e4 w4 ⟨z0, z1, z2, z3, rfl, ho4, hb4⟩
        have hs4 := hb4.size
        replace HB := Lib.hid (HB.out.trans (hb4.mono (by omega)))
        replace K3 := Lib.hid (K3.out.below hb4 K3.out.lt)
        have HO4 := Lib.hid ho4
        obtain ⟨x0, y0, x1, y1, x2, y2, x3, y3, rfl, rfl, rfl, rfl⟩ := ho4.open
        clear ho4 d0 d1 d2 d3
        have hb5 : Below w4.heap.size w4 (w4.alloc (.cells #[(.slice x0 D.first.length y0), (.slice x1 D.goal.length y1), (.slice xa lm.length xc), (.slice xn ((proofV D.first ms).getD []).length yn)] 31)) := (Below.refl _ _).alloc (Nat.le_refl _) _
        have hs5 : (w4.alloc (.cells #[(.slice x0 D.first.length y0), (.slice x1 D.goal.length y1), (.slice xa lm.length xc), (.slice xn ((proofV D.first ms).getD []).length yn)] 31)).heap.size = w4.heap.size + 1 := by simp
        replace HB := Lib.hid (HB.out.trans (hb5.mono (by omega)))
        replace K3 := Lib.hid (K3.out.below hb5 K3.out.lt)
        replace HM2 := Lib.hid ((OwnM.below HM2.out hb4 (by omega)).below hb5 (by omega))
        replace HO3 := Lib.hid ((OwnI.below HO3.out hb4 (by omega)).below hb5 (by omega))
        replace HO4 := Lib.hid (HO4.out.below hb5 (Nat.le_refl _))
        clear hb4 hb5
        have HD := Lib.hid (show deskDo D A = (⟨D.first, D.goal, ms, x⟩, true) by simp [deskDo, ← HDV.out, ← HR1.out, ← HR2.out])
        have f0 := K3.out.free 0
        have f1 := K3.out.free 1
        have f2 := K3.out.free 2
        have f3 := K3.out.free 3
        have c0 := K3.out.cell 0
        have c1 := K3.out.cell 1
        have c2 := K3.out.cell 2
        have c3 := K3.out.cell 3
        obtain ⟨wz, hwz⟩ : ∃ wz, wz = ((((w4.alloc (.cells #[(.slice x0 D.first.length y0), (.slice x1 D.goal.length y1), (.slice xa lm.length xc), (.slice xn ((proofV D.first ms).getD []).length yn)] 31)).setCell ⟨w.heap.size + 1 + 1, 0, none⟩ (.slice x0 D.first.length y0)).setCell ⟨w.heap.size + 1 + 1, 1, none⟩ (.slice x1 D.goal.length y1)).setCell ⟨w.heap.size + 1 + 1, 2, none⟩ (.slice xa lm.length xc)).setCell ⟨w.heap.size + 1 + 1, 3, none⟩ (.slice xn ((proofV D.first ms).getD []).length yn) := ⟨_, rfl⟩
        have KZ := K3.out.set4 (.slice x0 D.first.length y0) (.slice x1 D.goal.length y1) (.slice xa lm.length xc) (.slice xn ((proofV D.first ms).getD []).length yn)
        have hO := Outside.set4 (w.heap.size + 1 + 1) (w4.alloc (.cells #[(.slice x0 D.first.length y0), (.slice x1 D.goal.length y1), (.slice xa lm.length xc), (.slice xn ((proofV D.first ms).getD []).length yn)] 31)) (.slice x0 D.first.length y0) (.slice x1 D.goal.length y1) (.slice xa lm.length xc) (.slice xn ((proofV D.first ms).getD []).length yn)
        rw [← hwz] at KZ hO
        have hsz := hO.size
        have HZ := Lib.hid (Below.outside HB.out hO (by omega) (by omega))
        have HOZ := Lib.hid hO
        have q0 := KZ.cell 0
        have q1 := KZ.cell 1
        have q2 := KZ.cell 2
        have q3 := KZ.cell 3
        clear KZ hO
        go_wp2
        simp only [← hwz]
        clear hwz
        refine bodyPost_ret (v := .tuple #[aggD (.slice x0 D.first.length y0) (.slice x1 D.goal.length y1) (.slice xa lm.length xc) (.slice xn ((proofV D.first ms).getD []).length yn), .bool true]) (by simp [results, Tryz.results33, go_sem, q0, q1, q2, q3]) rfl (RetDB.mk _ _ _ _ _ rfl ⟨?_, ?_, HZ.out⟩)
        · rw [HD.out]
          obtain ⟨l1, h1, l2, h2, l3, h3, l4, h4, o1, o2, o3, o4, r1, r2, r3, r4, rest⟩ := HO4.out.outside HOZ.out (.inr (by omega))
          exact ⟨l1, h1, l2, h2, w1.heap.size, w2.heap.size, w2.heap.size, w3.heap.size, o1, o2, OwnM.outside HM2.out HOZ.out (.inr (by omega)), (by rw [← HR2.out]; exact OwnI.outside HO3.out HOZ.out (.inr (by omega))), by omega, by omega, by omega, by omega, rest.1, .inr (by omega), .inr (by omega), .inr (by omega), .inr (by omega), .inl (by omega)⟩
        · rw [HD.out]
end

section

set_option maxRecDepth 100000 in
set_option maxHeartbeats 3200000 in
theorem spec_l10With (lo hi lo' hi' : Nat) (a b c d vm : Value) (D : Dsk) (ms : List Mv) (w : World) (hx : DeskAt lo hi w a b c d D) (hh : hi ≤ w.heap.size) (hm : D.size ≤ 1048576) (hms : SlM lo' hi' w vm ms) (hh' : hi' ≤ w.heap.size) (hml : ms.length ≤ 1048576) (hk : (katV D.first && katV D.goal) = true) :
    Calls Tryz.prog 53 #[aggD a b c d, vm] w (DeskRet w ⟨D.first, D.goal, ms, (proofV D.first ms).getD []⟩) := by
  unfold Dsk.size at hm
  obtain ⟨w0, hw0⟩ : ∃ w0, w0 = (w.alloc (.cells #[a, b, c, d] 31)).alloc (.cells #[.slice none 0 0, .slice none 0 0, .slice none 0 0, .slice none 0 0] 31) := ⟨_, rfl⟩
  have HB : Hid (Below w.heap.size w w0) := by rw [hw0]; exact Lib.hid (((Below.refl _ _).alloc (Nat.le_refl _) _).alloc (by simp) _)
  have K1 : Hid (Blk w.heap.size (.cells #[a, b, c, d] 31) w0) := by
    rw [hw0]
    exact Lib.hid ((Blk.new w _).below ((Below.refl (w.alloc _).heap.size _).alloc (Nat.le_refl _) _) (by simp))
  have K2 : Hid (Blk (w.heap.size + 1) (.cells #[.slice none 0 0, .slice none 0 0, .slice none 0 0, .slice none 0 0] 31) w0) := by
    have h := Blk.new (w.alloc (.cells #[a, b, c, d] 31)) (.cells #[.slice none 0 0, .slice none 0 0, .slice none 0 0, .slice none 0 0] 31)
    rw [alloc_size] at h
    rw [hw0]; exact Lib.hid h
  have hs0 : w0.heap.size = w.heap.size + 2 := by rw [hw0]; simp
  have HX := Lib.hid (hx.below HB.out hh)
  have HMS := Lib.hid (Sl.below hms HB.out hh')
  have HW0 := Lib.hid hw0
  obtain ⟨ma, mc, rfl, hmc, hmm⟩ := hms.shape
  clear hx hms hw0
  have d0 := K1.out.cell 0
  have d1 := K1.out.cell 1
  go_enter Tryz.func53, Tryz.ntmps53
  go_wp2_with (rw [← HW0.out])
  refine (spec_DeskNew _ _ _ _ a b D.first D.goal w0 HX.out.first HX.out.goal (by omega) (by omega) (by omega) (by omega)).mono ?_
  rintro e1 w1 ⟨x0, x1, x2, x3, rfl, ho1, hb1⟩
  rw [deskNew, if_pos hk] at ho1
  obtain ⟨p0, q0, p1, q1, p2, q2, p3, q3, e0, e1, e2, e3⟩ := ho1.open
  change x0 = .slice p0 D.first.length q0 at e0
  change x1 = .slice p1 D.goal.length q1 at e1
  change x2 = .slice p2 0 q2 at e2
  change x3 = .slice p3 D.first.length q3 at e3
  subst e0 e1 e2 e3
  have hs1 := hb1.size
  replace HB := Lib.hid (HB.out.trans (hb1.mono (by omega)))
  replace K1 := Lib.hid (K1.out.below hb1 K1.out.lt)
  replace K2 := Lib.hid (K2.out.below hb1 K2.out.lt)
  replace HX := Lib.hid (HX.out.below hb1 (by omega))
  replace HMS := Lib.hid (Sl.below HMS.out hb1 (by omega))
  have HO1 := Lib.hid ho1
  clear hb1 ho1 d0 d1
  have d0 := K1.out.cell 0
  have f0 := K2.out.free 0
  have f1 := K2.out.free 1
  have f2 := K2.out.free 2
  have f3 := K2.out.free 3
  have c0 := K2.out.cell 0
  have c1 := K2.out.cell 1
  have c2 := K2.out.cell 2
  have c3 := K2.out.cell 3
  obtain ⟨wo, hwo⟩ : ∃ wo, wo = w1.alloc (.cells #[.slice p0 D.first.length q0, .slice p1 D.goal.length q1, .slice p2 0 q2, .slice p3 D.first.length q3] 31) := ⟨_, rfl⟩
  have KO : Hid (Blk w1.heap.size (.cells #[.slice p0 D.first.length q0, .slice p1 D.goal.length q1, .slice p2 0 q2, .slice p3 D.first.length q3] 31) wo) := by rw [hwo]; exact Lib.hid (Blk.new w1 _)
  have hbo : Below w1.heap.size w1 wo := by rw [hwo]; exact (Below.refl _ _).alloc (Nat.le_refl _) _
  have hso : wo.heap.size = w1.heap.size + 1 := by rw [hwo]; simp
  have HWO := Lib.hid hwo
  clear hwo
  have OE : Hid (Own 3 (w1.heap.size + 1) (w1.heap.size + 2) 39 (wo.alloc (.cells #[] 39)) (.slice (some ⟨w1.heap.size + 1, 0, none⟩) 0 0) 0 []) := by
    have h := Own.lit 3 39 wo [] 0 (by omega) rfl
    rw [hso] at h
    exact Lib.hid h
  have hbe : Below w1.heap.size w1 (wo.alloc (.cells #[] 39)) := hbo.alloc (by omega) _
  have HME := Lib.hid (Sl.below HMS.out hbe (by omega))
  have hze : (wo.alloc (.cells #[] 39)).heap.size = w1.heap.size + 2 := by simp; omega
  go_wp2_with (at_builtin; go_loud (rw [← HWO.out]; refine wpList_app_sl rfl _ _ 29 rfl 39 (.agg #[.int .i64 0, .bool false, .int .i64 0]) 3 24 Tryz.underlying29 info_mv rfl (by decide) (by decide) rfl OE.out rfl HME.out (mvs_one _) (by omega) (by omega) ?_))
  intro v5 w5 ho5 _ hout5 _
  have hs5 := hout5.size
  have KO5 := Lib.hid ((KO.out.below ((Below.refl wo.heap.size wo).alloc (o := .cells #[] 39) (Nat.le_refl _)) KO.out.lt).outside hout5 (by omega))
  have hb5 : Below w1.heap.size w1 w5 := Below.outside hbe hout5 (by omega) (by omega)
  have HO5 : Hid (OwnM (w1.heap.size + 1) w5.heap.size 39 w5 v5 ms) := Lib.hid (by unfold OwnM; simpa using ho5)
  obtain ⟨pa, pc, rfl⟩ := Own.shape ho5
  replace HB := Lib.hid (HB.out.trans (hb5.mono (by omega)))
  replace K1 := Lib.hid (K1.out.below hb5 K1.out.lt)
  replace K2 := Lib.hid (K2.out.below hb5 K2.out.lt)
  replace HX := Lib.hid (HX.out.below hb5 (by omega))
  replace HMS := Lib.hid (Sl.below HMS.out hb5 (by omega))
  replace HO1 := Lib.hid (HO1.out.below hb5 (Nat.le_refl _))
  clear ho5 hout5 hb5 hbe OE HME d0 f0 f1 f2 f3 c0 c1 c2 c3
  have d0 := K1.out.cell 0
  have f2 := KO5.out.free 2
  have c2 := KO5.out.cell 2
  obtain ⟨w6, hw6⟩ : ∃ w6, w6 = w5.setCell ⟨w1.heap.size, 2, none⟩ (.slice pa ms.length pc) := ⟨_, rfl⟩
  have KO6 := Lib.hid (show Blk w1.heap.size _ w6 by rw [hw6]; exact KO5.out.put 2 (.slice pa ms.length pc))
  have hO6 : Outside w1.heap.size (w1.heap.size + 1) w5 w6 := by rw [hw6]; exact Outside.put w1.heap.size 2 w5 _
  have hs6 := hO6.size
  have HW6 := Lib.hid hw6
  replace HB := Lib.hid (Below.outside HB.out hO6 (by omega) (by omega))
  replace K1 := Lib.hid (K1.out.outside hO6 (by omega))
  replace K2 := Lib.hid (K2.out.outside hO6 (by omega))
  replace HX := Lib.hid (HX.out.outside hO6 (.inl (by omega)))
  replace HMS := Lib.hid (Sl.outside HMS.out hO6 (.inl (by omega)))
  replace HO1 := Lib.hid (HO1.out.outside hO6 (.inl (by omega)))
  replace HO5 := Lib.hid (OwnM.outside HO5.out hO6 (.inr (by omega)))
  clear hw6 hO6
  have d6 := K1.out.cell 0
  go_wp2_with (rw [← HW6.out])
  refine (spec_ProofRun _ _ _ _ a _ D.first ms w6 HX.out.first (by omega) HMS.out hml).mono ?_
  rintro e3 w7 ⟨v7, ok7, rfl, hb7, hok7, ho7⟩
  have hs7 := hb7.size
  obtain ⟨pn, pm, rfl, _⟩ := Own.open ho7
  replace HB := Lib.hid (HB.out.trans (hb7.mono (by omega)))
  replace K2 := Lib.hid (K2.out.below hb7 K2.out.lt)
  have KO7 := Lib.hid (KO6.out.below hb7 KO6.out.lt)
  replace HO1 := Lib.hid (HO1.out.below hb7 (by omega))
  replace HO5 := Lib.hid (OwnM.below HO5.out hb7 (by omega))
  obtain ⟨w8, hw8⟩ : ∃ w8, w8 = w7.setCell ⟨w1.heap.size, 3, none⟩ (.slice pn ((proofV D.first ms).getD []).length pm) := ⟨_, rfl⟩
  have KO8 := Lib.hid (show Blk w1.heap.size _ w8 by rw [hw8]; exact KO7.out.put 3 (.slice pn ((proofV D.first ms).getD []).length pm))
  have hO8 : Outside w1.heap.size (w1.heap.size + 1) w7 w8 := by rw [hw8]; exact Outside.put w1.heap.size 3 w7 _
  have hs8 := hO8.size
  have HW8 := Lib.hid hw8
  replace HB := Lib.hid (Below.outside HB.out hO8 (by omega) (by omega))
  replace K2 := Lib.hid (K2.out.outside hO8 (by omega))
  replace HO1 := Lib.hid (HO1.out.outside hO8 (.inl (by omega)))
  replace HO5 := Lib.hid (OwnM.outside HO5.out hO8 (.inr (by omega)))
  have HO7 := Lib.hid (OwnI.outside ho7 hO8 (.inr (by omega)))
  clear hw8 hO8 d0 d6 f2 c2 hb7 ho7
  have f3 := KO7.out.free 3
  have c3 := KO7.out.cell 3
  have o0 := KO8.out.cell 0
  have o1 := KO8.out.cell 1
  have o2 := KO8.out.cell 2
  have o3 := KO8.out.cell 3
  have g0 := K2.out.free 0
  have g1 := K2.out.free 1
  have g2 := K2.out.free 2
  have g3 := K2.out.free 3
  have h0 := K2.out.cell 0
  have h1 := K2.out.cell 1
  have h2 := K2.out.cell 2
  have h3 := K2.out.cell 3
  obtain ⟨wz, hwz⟩ : ∃ wz, wz = (((w8.setCell ⟨w.heap.size + 1, 0, none⟩ (.slice p0 D.first.length q0)).setCell ⟨w.heap.size + 1, 1, none⟩ (.slice p1 D.goal.length q1)).setCell ⟨w.heap.size + 1, 2, none⟩ (.slice pa ms.length pc)).setCell ⟨w.heap.size + 1, 3, none⟩ (.slice pn ((proofV D.first ms).getD []).length pm) := ⟨_, rfl⟩
  have KZ := K2.out.set4 (.slice p0 D.first.length q0) (.slice p1 D.goal.length q1) (.slice pa ms.length pc) (.slice pn ((proofV D.first ms).getD []).length pm)
  have hO := Outside.set4 (w.heap.size + 1) w8 (.slice p0 D.first.length q0) (.slice p1 D.goal.length q1) (.slice pa ms.length pc) (.slice pn ((proofV D.first ms).getD []).length pm)
  rw [← hwz] at KZ hO
  have hsz := hO.size
  have HZ := Lib.hid (Below.outside HB.out hO (by omega) (by omega))
  have HOZ := Lib.hid hO
  have r0 := KZ.cell 0
  have r1 := KZ.cell 1
  have r2 := KZ.cell 2
  have r3 := KZ.cell 3
  clear KZ hO
  go_wp2_with (rw [← HW8.out])
  simp only [← hwz]
  clear hwz
  refine bodyPost_ret (v := aggD (.slice p0 D.first.length q0) (.slice p1 D.goal.length q1) (.slice pa ms.length pc) (.slice pn ((proofV D.first ms).getD []).length pm)) (by simp [results, Tryz.results53, go_sem, r0, r1, r2, r3]) rfl (RetD.mk _ _ _ _ rfl ⟨?_, HZ.out⟩)
  obtain ⟨l1, h1, l2, h2, l3, h3, l4, h4, o1, o2, o3, o4, r1, r2, r3, r4, rest⟩ := HO1.out.outside HOZ.out (.inr (by omega))
  exact ⟨l1, h1, l2, h2, w1.heap.size + 1, w5.heap.size, w6.heap.size, w7.heap.size, o1, o2, OwnM.outside HO5.out HOZ.out (.inr (by omega)), OwnI.outside HO7.out HOZ.out (.inr (by omega)), by omega, by omega, by omega, by omega, rest.1, .inl (by omega), .inl (by omega), .inl (by omega), .inl (by omega), .inl (by omega)⟩
end

section

theorem proofV_iff {e x : List Int} {ms : List Mv} : proofV e ms = some x ↔ katV e = true ∧ ms.length ≤ 60 ∧ runM e ms = some x := by
  unfold proofV
  constructor
  · intro h
    split at h
    · rename_i hc
      simp only [Bool.and_eq_true, decide_eq_true_eq] at hc
      exact ⟨hc.1, hc.2, h⟩
    · cases h
  · rintro ⟨h1, h2, h3⟩
    simp [h1, h2, h3]
/-- More moves behind moves that can be made. -/
theorem proofV_more {e x : List Int} {a : List Mv} (h : proofV e a = some x) (b : List Mv) : proofV e (a ++ b) = if (a ++ b).length ≤ 60 then runM x b else none := by
  obtain ⟨h1, h2, h3⟩ := proofV_iff.1 h
  unfold proofV
  rw [h1, runM_append, h3]
  simp
/-- A front of moves that can be made. -/
theorem proofV_front {e x : List Int} {a : List Mv} (h : proofV e a = some x) (k : Nat) : ∃ y, proofV e (a.take k) = some y := by
  obtain ⟨h1, h2, h3⟩ := proofV_iff.1 h
  have h4 := runM_append (a.take k) (a.drop k) e
  rw [List.take_append_drop, h3] at h4
  cases h5 : runM e (a.take k) with
  | none => rw [h5] at h4; cases h4
  | some y => exact ⟨y, proofV_iff.2 ⟨h1, by simp; omega, h5⟩⟩
theorem simpBy_run {e : List Int} (h : katV e = true) : ∃ y, runM e (simpBy e) = some y := by
  obtain ⟨_, _, h3⟩ := proofV_iff.1 (proofV_simpM h)
  exact ⟨_, by rw [simpBy, if_pos h]; exact h3⟩
/-- A desk that counts, its parts. -/
theorem deskV_parts {D : Dsk} (h : deskV D = true) : katV D.first = true ∧ katV D.goal = true ∧ katV D.now = true ∧ D.made.length ≤ 60 ∧ proofV D.first D.made = some D.now := by
  unfold deskV at h
  cases hp : proofV D.first D.made with
  | none => rw [hp] at h; cases h
  | some x =>
    rw [hp] at h
    simp only [Bool.and_eq_true] at h
    have h2 : x = D.now := by simpa [eqL] using h.2
    subst h2
    obtain ⟨h3, h4, _⟩ := proofV_iff.1 hp
    exact ⟨h3, h.1, proofV_kat hp, h4, rfl⟩
/-- A desk behind moves, as the paper says it. -/
def deskTo (D : Dsk) (r : Option (List Mv)) : Dsk × Bool :=
  match r with
  | some ms => if ms.length > 60 ∨ ms.length = D.made.length then (D, false) else (⟨D.first, D.goal, ms, (proofV D.first ms).getD []⟩, true)
  | none => (D, false)
/-- The moves behind an act, as the paper says it. -/
def madeS (D : Dsk) (a : Ac) : Option (List Mv) :=
  if namedB a then
    if a.kind = 0 ∧ (moveV D.now a.step).isSome then some (D.made ++ [a.step])
    else if a.kind = 1 ∧ 1 ≤ a.count ∧ a.count ≤ D.made.length then some (D.made.take (D.made.length - a.count.toNat))
    else if a.kind = 2 then some (D.made ++ simpBy D.now)
    else none
  else none
theorem deskDo_said {D : Dsk} {a : Ac} (h : deskV D = true) : deskDo D a = deskTo D (madeS D a) := by
  obtain ⟨k1, k2, k3, hl, hp⟩ := deskV_parts h
  unfold deskDo
  rw [if_pos h]
  cases hn : namedB a
  · simp [madeV, madeS, hn, deskTo]
  · rcases named_kinds hn with hk | hk | hk
    · have e1 : madeV D a = some (D.made ++ [a.step]) := by simp [madeV, hn, hk]
      have e2 := proofV_more hp [a.step]
      have e3 : runM D.now [a.step] = moveV D.now a.step := by simp [runM]
      rw [e3] at e2
      rw [e1]
      cases hm : moveV D.now a.step with
      | none => rw [hm] at e2; simp [madeS, hn, hk, hm, deskTo, e2]
      | some x =>
        rw [hm] at e2
        by_cases h6 : (D.made ++ [a.step]).length ≤ 60
        · rw [if_pos h6] at e2
          have : ¬ ((D.made ++ [a.step]).length > 60 ∨ (D.made ++ [a.step]).length = D.made.length) := by simp at h6 ⊢; omega
          simp only [madeS, hn, hk, hm, deskTo, e2, if_neg this, if_true, Option.bind_some, Option.map_some, Option.isSome_some, and_self, Option.getD_some]
        · rw [if_neg h6] at e2
          have : (D.made ++ [a.step]).length > 60 ∨ (D.made ++ [a.step]).length = D.made.length := by omega
          simp only [madeS, hn, hk, hm, deskTo, e2, if_pos this, if_true, Option.bind_some, Option.map_none, Option.isSome_some, and_self]
    · by_cases hc : 1 ≤ a.count ∧ a.count ≤ D.made.length
      · have e1 : madeV D a = some (D.made.take (D.made.length - a.count.toNat)) := by simp [madeV, hn, hk, hc]
        obtain ⟨y, e2⟩ := proofV_front hp (D.made.length - a.count.toNat)
        rw [e1]
        simp [madeS, hn, hk, hc, deskTo, e2]
        omega
      · have e1 : madeV D a = none := by simp only [madeV, hn, hk]; simp [hc]
        have e2 : madeS D a = none := by simp only [madeS, hn, hk]; simp [hc]
        rw [e1, e2]; rfl
    · obtain ⟨y, e4⟩ := simpBy_run k3
      have e2 := proofV_more hp (simpBy D.now)
      rw [e4] at e2
      have e3 : madeS D a = some (D.made ++ simpBy D.now) := by simp [madeS, hn, hk]
      rw [e3]
      by_cases hs : simpBy D.now = []
      · have e1 : madeV D a = none := by simp [madeV, hn, hk, hs]
        rw [e1]; simp [deskTo, hs]
      · have hpos : 0 < (simpBy D.now).length := List.length_pos_iff.2 hs
        have e1 : madeV D a = some (D.made ++ simpBy D.now) := by simp [madeV, hn, hk, hs]
        rw [e1]
        by_cases h6 : (D.made ++ simpBy D.now).length ≤ 60
        · rw [if_pos h6] at e2
          have : ¬ ((D.made ++ simpBy D.now).length > 60 ∨ (D.made ++ simpBy D.now).length = D.made.length) := by simp only [List.length_append] at h6 ⊢; omega
          simp only [deskTo, e2, if_neg this, Option.bind_some, Option.map_some, Option.getD_some]
        · rw [if_neg h6] at e2
          have : (D.made ++ simpBy D.now).length > 60 ∨ (D.made ++ simpBy D.now).length = D.made.length := by omega
          simp only [deskTo, e2, if_pos this, Option.bind_some, Option.map_none]
end

section

theorem deskV_kat {D : Dsk} (h : deskV D = true) : (katV D.first && katV D.goal) = true ∧ proofV D.first D.made = some D.now := by
  unfold deskV at h
  cases hp : proofV D.first D.made with
  | none => rw [hp] at h; cases h
  | some x =>
    rw [hp] at h
    simp only [Bool.and_eq_true] at h
    have h1 : katV D.first = true := by
      unfold proofV at hp
      split at hp
      · rename_i h2; simp at h2; exact h2.1
      · cases hp
    have h2 : x = D.now := by simpa [eqL] using h.2
    exact ⟨by rw [h1, h.1]; rfl, by rw [h2]⟩

set_option maxRecDepth 100000 in
set_option maxHeartbeats 3200000 in
theorem spec_DeskDo (lo hi : Nat) (a b c d : Value) (D : Dsk) (A : Ac) (w : World) (hx : DeskAt lo hi w a b c d D) (hh : hi ≤ w.heap.size) (hm : D.size ≤ 1048576) :
    Calls Tryz.prog 51 #[aggD a b c d, aggA A] w (DoneR w (deskDo D A)) := by
  have HM := Lib.hid hm
  unfold Dsk.size at hm
  obtain ⟨w0, hw0⟩ : ∃ w0, w0 = ((w.alloc (.cells #[a, b, c, d] 31)).alloc (.cells #[.int .i64 A.kind, .int .i64 A.step.which, .bool A.step.back, .int .i64 A.step.at_, .int .i64 A.count] 41)).alloc (.cells #[.slice none 0 0, .slice none 0 0, .slice none 0 0, .slice none 0 0] 31) := ⟨_, rfl⟩
  have hb0 : Below w.heap.size w w0 := by rw [hw0]; exact (((Below.refl _ _).alloc (Nat.le_refl _) _).alloc (by simp) _).alloc (by simp; omega) _
  have hs0 : w0.heap.size = w.heap.size + 3 := by rw [hw0]; simp
  have K1 : Hid (Blk w.heap.size (.cells #[a, b, c, d] 31) w0) := by
    rw [hw0]
    exact Lib.hid (((Blk.new w _).below ((Below.refl (w.alloc _).heap.size _).alloc (Nat.le_refl _) _) (by simp)).below ((Below.refl ((w.alloc _).alloc _).heap.size _).alloc (Nat.le_refl _) _) (by simp; omega))
  have K2 : Hid (Blk (w.heap.size + 1) (.cells #[.int .i64 A.kind, .int .i64 A.step.which, .bool A.step.back, .int .i64 A.step.at_, .int .i64 A.count] 41) w0) := by
    have h := (Blk.new (w.alloc (.cells #[a, b, c, d] 31)) (.cells #[.int .i64 A.kind, .int .i64 A.step.which, .bool A.step.back, .int .i64 A.step.at_, .int .i64 A.count] 41)).below ((Below.refl ((w.alloc (.cells #[a, b, c, d] 31)).alloc (.cells #[.int .i64 A.kind, .int .i64 A.step.which, .bool A.step.back, .int .i64 A.step.at_, .int .i64 A.count] 41)).heap.size _).alloc (o := (.cells #[.slice none 0 0, .slice none 0 0, .slice none 0 0, .slice none 0 0] 31)) (Nat.le_refl _)) (by simp)
    rw [alloc_size] at h
    rw [hw0]; exact Lib.hid h
  have K3 : Hid (Blk (w.heap.size + 1 + 1) (.cells #[.slice none 0 0, .slice none 0 0, .slice none 0 0, .slice none 0 0] 31) w0) := by
    have h := Blk.new ((w.alloc (.cells #[a, b, c, d] 31)).alloc (.cells #[.int .i64 A.kind, .int .i64 A.step.which, .bool A.step.back, .int .i64 A.step.at_, .int .i64 A.count] 41)) (.cells #[.slice none 0 0, .slice none 0 0, .slice none 0 0, .slice none 0 0] 31)
    rw [alloc_size, alloc_size] at h
    rw [hw0]; exact Lib.hid h
  have HX := Lib.hid (hx.below hb0 hh)
  have HB := Lib.hid hb0
  have HW0 := Lib.hid hw0
  clear hx hb0 hw0
  obtain ⟨dv, hdv⟩ : ∃ dv, dv = deskV D := ⟨_, rfl⟩
  have HDV := Lib.hid hdv
  clear hdv
  have d0 := K1.out.cell 0
  have d1 := K1.out.cell 1
  have d2 := K1.out.cell 2
  have d3 := K1.out.cell 3
  have a0 := K2.out.cell 0
  have a1 := K2.out.cell 1
  have a2 := K2.out.cell 2
  have a3 := K2.out.cell 3
  have a4 := K2.out.cell 4
  go_enter Tryz.func51, Tryz.ntmps51
  go_wp2_with (rw [← HW0.out])
  refine (spec_DeskValid _ _ a b c d D w0 HX.out (by omega) HM.out).mono ?_
  rintro e1 w1 ⟨rfl, hb1⟩
  rw [← HDV.out]
  have hs1 := hb1.size
  replace HB := Lib.hid (HB.out.trans (hb1.mono (by omega)))
  replace K1 := Lib.hid (K1.out.below hb1 K1.out.lt)
  replace K2 := Lib.hid (K2.out.below hb1 K2.out.lt)
  replace K3 := Lib.hid (K3.out.below hb1 K3.out.lt)
  replace HX := Lib.hid (HX.out.below hb1 (by omega))
  clear hb1 d0 d1 d2 d3 a0 a1 a2 a3 a4
  have d0 := K1.out.cell 0
  have d1 := K1.out.cell 1
  have d2 := K1.out.cell 2
  have d3 := K1.out.cell 3
  have a0 := K2.out.cell 0
  have a1 := K2.out.cell 1
  have a2 := K2.out.cell 2
  have a3 := K2.out.cell 3
  have a4 := K2.out.cell 4
  cases dv
  · have HD := Lib.hid (show deskDo D A = (Dsk.none, false) by simp [deskDo, ← HDV.out])
    have f0 := K3.out.free 0
    have f1 := K3.out.free 1
    have f2 := K3.out.free 2
    have f3 := K3.out.free 3
    have c0 := K3.out.cell 0
    have c1 := K3.out.cell 1
    have c2 := K3.out.cell 2
    have c3 := K3.out.cell 3
    obtain ⟨wz, hwz⟩ : ∃ wz, wz = (((w1.setCell ⟨w.heap.size + 1 + 1, 0, none⟩ (.slice none 0 0)).setCell ⟨w.heap.size + 1 + 1, 1, none⟩ (.slice none 0 0)).setCell ⟨w.heap.size + 1 + 1, 2, none⟩ (.slice none 0 0)).setCell ⟨w.heap.size + 1 + 1, 3, none⟩ (.slice none 0 0) := ⟨_, rfl⟩
    have KZ := K3.out.set4 (.slice none 0 0) (.slice none 0 0) (.slice none 0 0) (.slice none 0 0)
    have hO := Outside.set4 (w.heap.size + 1 + 1) w1 (.slice none 0 0) (.slice none 0 0) (.slice none 0 0) (.slice none 0 0)
    rw [← hwz] at KZ hO
    have hsz := hO.size
    have HZ := Lib.hid (Below.outside HB.out hO (by omega) (by omega))
    have HOZ := Lib.hid hO
    have q0 := KZ.cell 0
    have q1 := KZ.cell 1
    have q2 := KZ.cell 2
    have q3 := KZ.cell 3
    clear KZ hO
    go_wp2
    simp only [← hwz]
    clear hwz
    refine bodyPost_ret (v := .tuple #[aggD (.slice none 0 0) (.slice none 0 0) (.slice none 0 0) (.slice none 0 0), .bool false]) (by simp [results, Tryz.results51, go_sem, q0, q1, q2, q3]) rfl (RetDB.mk _ _ _ _ _ rfl ⟨?_, ?_, HZ.out⟩)
    · rw [HD.out]
      exact DeskOwn.nils _ _ HZ.out.size _
    · rw [HD.out]
  · obtain ⟨hk, hp0⟩ := deskV_kat HDV.out.symm
    have HP0 := Lib.hid hp0
    have HK := Lib.hid hk
    clear hk hp0
    go_wp2_with fail
    refine (spec_l10With _ _ _ _ a b c d c D D.made w1 HX.out (by omega) HM.out HX.out.made (by omega) (by omega) HK.out).mono ?_
    rintro e2 w2 ⟨z0, z1, z2, z3, rfl, ho2, hb2⟩
    rw [HP0.out] at ho2
    obtain ⟨x0, y0, x1, y1, x2, y2, x3, y3, e0, e1, e2, e3⟩ := ho2.open
    change z0 = .slice x0 D.first.length y0 at e0
    change z1 = .slice x1 D.goal.length y1 at e1
    change z2 = .slice x2 D.made.length y2 at e2
    change z3 = .slice x3 D.now.length y3 at e3
    subst e0 e1 e2 e3
    have hs2 := hb2.size
    replace HB := Lib.hid (HB.out.trans (hb2.mono (by omega)))
    replace K1 := Lib.hid (K1.out.below hb2 K1.out.lt)
    replace K2 := Lib.hid (K2.out.below hb2 K2.out.lt)
    replace K3 := Lib.hid (K3.out.below hb2 K3.out.lt)
    replace HX := Lib.hid (HX.out.below hb2 (by omega))
    have HO2 : Hid (DeskOwn w1.heap.size w2.heap.size w2 (.slice x0 D.first.length y0) (.slice x1 D.goal.length y1) (.slice x2 D.made.length y2) (.slice x3 D.now.length y3) D) := Lib.hid ho2
    clear hb2 ho2 d0 d1 d2 d3 a0 a1 a2 a3 a4
    obtain ⟨wo, hwo⟩ : ∃ wo, wo = w2.alloc (.cells #[.slice x0 D.first.length y0, .slice x1 D.goal.length y1, .slice x2 D.made.length y2, .slice x3 D.now.length y3] 31) := ⟨_, rfl⟩
    have KO : Hid (Blk w2.heap.size (.cells #[.slice x0 D.first.length y0, .slice x1 D.goal.length y1, .slice x2 D.made.length y2, .slice x3 D.now.length y3] 31) wo) := by rw [hwo]; exact Lib.hid (Blk.new w2 _)
    have hbo : Below w2.heap.size w2 wo := by rw [hwo]; exact (Below.refl _ _).alloc (Nat.le_refl _) _
    have hso : wo.heap.size = w2.heap.size + 1 := by rw [hwo]; simp
    have HWO := Lib.hid hwo
    replace HB := Lib.hid (HB.out.trans (hbo.mono (by omega)))
    replace K1 := Lib.hid (K1.out.below hbo K1.out.lt)
    replace K2 := Lib.hid (K2.out.below hbo K2.out.lt)
    replace K3 := Lib.hid (K3.out.below hbo K3.out.lt)
    replace HX := Lib.hid (HX.out.below hbo (by omega))
    replace HO2 := Lib.hid (HO2.out.below hbo (Nat.le_refl _))
    clear hwo hbo
    have d2 := K1.out.cell 2
    have d3 := K1.out.cell 3
    have a1 := K2.out.cell 1
    have a2 := K2.out.cell 2
    have a3 := K2.out.cell 3
    go_wp2_with (rw [← HWO.out])
    refine (spec_MoveDo d D.now A.step wo (SlI.rd HX.out.now (by omega)) (by omega)).mono ?_
    rintro e3 w3 ⟨v3, can, rfl, hb3, hcan, ho3⟩
    have hs3 := hb3.size
    replace HB := Lib.hid (HB.out.trans (hb3.mono (by omega)))
    replace K1 := Lib.hid (K1.out.below hb3 K1.out.lt)
    replace K2 := Lib.hid (K2.out.below hb3 K2.out.lt)
    replace K3 := Lib.hid (K3.out.below hb3 K3.out.lt)
    replace KO := Lib.hid (KO.out.below hb3 KO.out.lt)
    replace HX := Lib.hid (HX.out.below hb3 (by omega))
    replace HO2 := Lib.hid (HO2.out.below hb3 (by omega))
    have HCAN := Lib.hid hcan
    obtain ⟨xm, ym, rfl, _⟩ := Own.open ho3
    clear hb3 ho3 hcan d2 d3 a1 a2 a3
    have d2 := K1.out.cell 2
    obtain ⟨ma, mc, hce, hmc1, hmc2⟩ := HX.out.made.shape
    unfold maxLen at hmc2
    subst hce
    have OE : Hid (Own 3 w3.heap.size (w3.heap.size + 1) 39 (w3.alloc (.cells #[] 39)) (.slice (some ⟨w3.heap.size, 0, none⟩) 0 0) 0 []) := Lib.hid (Own.lit 3 39 w3 [] 0 (by omega) rfl)
    have hbe : Below w3.heap.size w3 (w3.alloc (.cells #[] 39)) := (Below.refl _ _).alloc (Nat.le_refl _) _
    have d2e := (K1.out.below hbe K1.out.lt).cell 2
    have HME := Lib.hid (Sl.below HX.out.made hbe (by omega))
    have hze : (w3.alloc (.cells #[] 39)).heap.size = w3.heap.size + 1 := by simp
    go_wp2_with (at_builtin; go_loud (refine wpList_app_sl rfl _ _ 29 rfl 39 (.agg #[.int .i64 0, .bool false, .int .i64 0]) 3 24 Tryz.underlying29 info_mv rfl (by decide) (by decide) rfl OE.out rfl HME.out (mvs_one _) (by omega) (by omega) ?_))
    intro v5 w5 ho5 _ hout5 _
    have hs5 := hout5.size
    have hb5 : Below w3.heap.size w3 w5 := Below.outside hbe hout5 (Nat.le_refl _) (by omega)
    have HO5 : Hid (OwnM w3.heap.size w5.heap.size 39 w5 v5 D.made) := Lib.hid (by unfold OwnM; simpa using ho5)
    obtain ⟨pa, pc, rfl, hpc1, hpc2⟩ := (OwnM.sl HO5.out).shape
    unfold maxLen at hpc2
    replace HB := Lib.hid (HB.out.trans (hb5.mono (by omega)))
    replace K1 := Lib.hid (K1.out.below hb5 K1.out.lt)
    replace K2 := Lib.hid (K2.out.below hb5 K2.out.lt)
    replace K3 := Lib.hid (K3.out.below hb5 K3.out.lt)
    replace KO := Lib.hid (KO.out.below hb5 KO.out.lt)
    replace HX := Lib.hid (HX.out.below hb5 (by omega))
    replace HO2 := Lib.hid (HO2.out.below hb5 (by omega))
    clear ho5 hout5 hb5 hbe OE HME d2 d2e
    have a0 := K2.out.cell 0
    have a1 := K2.out.cell 1
    have a2 := K2.out.cell 2
    have a3 := K2.out.cell 3
    have a4 := K2.out.cell 4
    obtain ⟨nb, hnb⟩ : ∃ nb, nb = namedB A := ⟨_, rfl⟩
    have HNB := Lib.hid hnb
    clear hnb
    go_wp2_with fail
    refine (l10Named_any A w5).mono ?_
    rintro e6 w6 ⟨rfl, hb6⟩
    rw [← HNB.out]
    have hs6 := hb6.size
    replace HB := Lib.hid (HB.out.trans (hb6.mono (by omega)))
    replace K1 := Lib.hid (K1.out.below hb6 K1.out.lt)
    replace K2 := Lib.hid (K2.out.below hb6 K2.out.lt)
    replace K3 := Lib.hid (K3.out.below hb6 K3.out.lt)
    replace KO := Lib.hid (KO.out.below hb6 KO.out.lt)
    replace HX := Lib.hid (HX.out.below hb6 (by omega))
    replace HO2 := Lib.hid (HO2.out.below hb6 (by omega))
    replace HO5 := Lib.hid (OwnM.below HO5.out hb6 (Nat.le_refl _))
    clear hb6 a0 a1 a2 a3 a4
    cases nb
    · have HD := Lib.hid (show deskDo D A = (D, false) by simp [deskDo_said HDV.out.symm, madeS, ← HNB.out, deskTo])
      have o0 := KO.out.cell 0
      have o1 := KO.out.cell 1
      have o2 := KO.out.cell 2
      have o3 := KO.out.cell 3
      have f0 := K3.out.free 0
      have f1 := K3.out.free 1
      have f2 := K3.out.free 2
      have f3 := K3.out.free 3
      have c0 := K3.out.cell 0
      have c1 := K3.out.cell 1
      have c2 := K3.out.cell 2
      have c3 := K3.out.cell 3
      obtain ⟨wz, hwz⟩ : ∃ wz, wz = (((w6.setCell ⟨w.heap.size + 1 + 1, 0, none⟩ (.slice x0 D.first.length y0)).setCell ⟨w.heap.size + 1 + 1, 1, none⟩ (.slice x1 D.goal.length y1)).setCell ⟨w.heap.size + 1 + 1, 2, none⟩ (.slice x2 D.made.length y2)).setCell ⟨w.heap.size + 1 + 1, 3, none⟩ (.slice x3 D.now.length y3) := ⟨_, rfl⟩
      have KZ := K3.out.set4 (.slice x0 D.first.length y0) (.slice x1 D.goal.length y1) (.slice x2 D.made.length y2) (.slice x3 D.now.length y3)
      have hO := Outside.set4 (w.heap.size + 1 + 1) w6 (.slice x0 D.first.length y0) (.slice x1 D.goal.length y1) (.slice x2 D.made.length y2) (.slice x3 D.now.length y3)
      rw [← hwz] at KZ hO
      have hsz := hO.size
      have HZ := Lib.hid (Below.outside HB.out hO (by omega) (by omega))
      have HOZ := Lib.hid hO
      have q0 := KZ.cell 0
      have q1 := KZ.cell 1
      have q2 := KZ.cell 2
      have q3 := KZ.cell 3
      clear KZ hO
      go_wp2
      simp only [← hwz]
      clear hwz
      refine bodyPost_ret (v := .tuple #[aggD (.slice x0 D.first.length y0) (.slice x1 D.goal.length y1) (.slice x2 D.made.length y2) (.slice x3 D.now.length y3), .bool false]) (by simp [results, Tryz.results51, go_sem, q0, q1, q2, q3]) rfl (RetDB.mk _ _ _ _ _ rfl ⟨?_, ?_, HZ.out⟩)
      · rw [HD.out]
        exact (HO2.out.outside HOZ.out (.inr (by omega))).wide (by omega) (by omega)
      · rw [HD.out]
    have a0 := K2.out.cell 0
    have hm60 : D.made.length ≤ 60 := (deskV_parts HDV.out.symm).2.2.2.1
    have hl1 := K1.out.lt
    have hl2 := K2.out.lt
    have hl3 := K3.out.lt
    have hlo := KO.out.lt
    rcases named_kinds HNB.out.symm with hk | hk | hk
    · rw [hk] at a0
      cases can
      · have HD := Lib.hid (show deskDo D A = (D, false) by
          have h1 : (moveV D.now A.step).isSome = false := HCAN.out.symm
          simp [deskDo_said HDV.out.symm, madeS, ← HNB.out, hk, h1, deskTo])
        clear hk
        have o0 := KO.out.cell 0
        have o1 := KO.out.cell 1
        have o2 := KO.out.cell 2
        have o3 := KO.out.cell 3
        have f0 := K3.out.free 0
        have f1 := K3.out.free 1
        have f2 := K3.out.free 2
        have f3 := K3.out.free 3
        have c0 := K3.out.cell 0
        have c1 := K3.out.cell 1
        have c2 := K3.out.cell 2
        have c3 := K3.out.cell 3
        obtain ⟨wz, hwz⟩ : ∃ wz, wz = (((w6.setCell ⟨w.heap.size + 1 + 1, 0, none⟩ (.slice x0 D.first.length y0)).setCell ⟨w.heap.size + 1 + 1, 1, none⟩ (.slice x1 D.goal.length y1)).setCell ⟨w.heap.size + 1 + 1, 2, none⟩ (.slice x2 D.made.length y2)).setCell ⟨w.heap.size + 1 + 1, 3, none⟩ (.slice x3 D.now.length y3) := ⟨_, rfl⟩
        have KZ := K3.out.set4 (.slice x0 D.first.length y0) (.slice x1 D.goal.length y1) (.slice x2 D.made.length y2) (.slice x3 D.now.length y3)
        have hO := Outside.set4 (w.heap.size + 1 + 1) w6 (.slice x0 D.first.length y0) (.slice x1 D.goal.length y1) (.slice x2 D.made.length y2) (.slice x3 D.now.length y3)
        rw [← hwz] at KZ hO
        have hsz := hO.size
        have HZ := Lib.hid (Below.outside HB.out hO (by omega) (by omega))
        have HOZ := Lib.hid hO
        have q0 := KZ.cell 0
        have q1 := KZ.cell 1
        have q2 := KZ.cell 2
        have q3 := KZ.cell 3
        clear KZ hO
        go_wp2
        simp only [← hwz]
        clear hwz
        refine bodyPost_ret (v := .tuple #[aggD (.slice x0 D.first.length y0) (.slice x1 D.goal.length y1) (.slice x2 D.made.length y2) (.slice x3 D.now.length y3), .bool false]) (by simp [results, Tryz.results51, go_sem, q0, q1, q2, q3]) rfl (RetDB.mk _ _ _ _ _ rfl ⟨?_, ?_, HZ.out⟩)
        · rw [HD.out]
          exact (HO2.out.outside HOZ.out (.inr (by omega))).wide (by omega) (by omega)
        · rw [HD.out]
      · have HR := Lib.hid (show some (D.made ++ [A.step]) = madeS D A by
          have h1 : (moveV D.now A.step).isSome = true := HCAN.out.symm
          simp [madeS, ← HNB.out, hk, h1])
        clear hk
        have a1 := K2.out.cell 1
        have a2 := K2.out.cell 2
        have a3 := K2.out.cell 3
        go_wp2_with (at_builtin; go_loud (refine wpList_app_lit w6 rfl _ _ 29 rfl 39 (.agg #[.int .i64 0, .bool false, .int .i64 0]) 3 24 Tryz.underlying29 info_mv rfl (by decide) (by decide) rfl HO5.out 1 (encMv A.step) rfl rfl (encMv_one A.step) rfl (by omega) (by omega) ?_))
        intro v7 w7 ho7 hout7 _
        have hs7 := hout7.size
        have hb7 : Below w3.heap.size w6 w7 := Below.outside ((Below.refl w6.heap.size w6).mono (by omega)) hout7 (Nat.le_refl _) (by omega)
        have hm7 : SlM w3.heap.size w7.heap.size w7 v7 (D.made ++ [A.step]) := by unfold SlM; rw [List.length_append, mvs_append]; exact Own.sl ho7
        obtain ⟨qa, qc, hv⟩ := Own.shape ho7
        obtain ⟨ml, hml⟩ : ∃ ml, ml = D.made.length + 1 := ⟨_, rfl⟩
        rw [← hml] at hv
        subst hv
        obtain ⟨ms, hms⟩ : ∃ ms, ms = D.made ++ [A.step] := ⟨_, rfl⟩
        have HLEN : Hid (ms.length = ml) := Lib.hid (by rw [hms, hml]; simp)
        rw [← hms] at HR hm7
        have HMS := Lib.hid hm7
        have HL : Hid (w7.heap.size ≤ w7.heap.size) := Lib.hid (Nat.le_refl _)
        have hmb : ml ≤ 1048576 := by omega
        clear a0 a1 a2 a3
        replace HB := Lib.hid (HB.out.trans (hb7.mono (by omega)))
        replace K1 := Lib.hid (K1.out.below hb7 (by omega))
        replace K2 := Lib.hid (K2.out.below hb7 (by omega))
        replace K3 := Lib.hid (K3.out.below hb7 (by omega))
        replace KO := Lib.hid (KO.out.below hb7 (by omega))
        replace HX := Lib.hid (HX.out.below hb7 (by omega))
        replace HO2 := Lib.hid (HO2.out.below hb7 (by omega))
        clear hb7 hout7 ho7 hm7 hms hml
        by_cases hq : ml > 60 ∨ ml = D.made.length
        · have HD := Lib.hid (show deskDo D A = (D, false) by rw [deskDo_said HDV.out.symm, ← HR.out]; simp only [deskTo, HLEN.out]; rw [if_pos hq])
          have d2 := K1.out.cell 2
          by_cases h6 : 60 < ml
          · have h6' : (60 : Int) < (ml : Int) := by omega
            clear hq
            have o0 := KO.out.cell 0
            have o1 := KO.out.cell 1
            have o2 := KO.out.cell 2
            have o3 := KO.out.cell 3
            have f0 := K3.out.free 0
            have f1 := K3.out.free 1
            have f2 := K3.out.free 2
            have f3 := K3.out.free 3
            have c0 := K3.out.cell 0
            have c1 := K3.out.cell 1
            have c2 := K3.out.cell 2
            have c3 := K3.out.cell 3
            obtain ⟨wz, hwz⟩ : ∃ wz, wz = (((w7.setCell ⟨w.heap.size + 1 + 1, 0, none⟩ (.slice x0 D.first.length y0)).setCell ⟨w.heap.size + 1 + 1, 1, none⟩ (.slice x1 D.goal.length y1)).setCell ⟨w.heap.size + 1 + 1, 2, none⟩ (.slice x2 D.made.length y2)).setCell ⟨w.heap.size + 1 + 1, 3, none⟩ (.slice x3 D.now.length y3) := ⟨_, rfl⟩
            have KZ := K3.out.set4 (.slice x0 D.first.length y0) (.slice x1 D.goal.length y1) (.slice x2 D.made.length y2) (.slice x3 D.now.length y3)
            have hO := Outside.set4 (w.heap.size + 1 + 1) w7 (.slice x0 D.first.length y0) (.slice x1 D.goal.length y1) (.slice x2 D.made.length y2) (.slice x3 D.now.length y3)
            rw [← hwz] at KZ hO
            have hsz := hO.size
            have HZ := Lib.hid (Below.outside HB.out hO (by omega) (by omega))
            have HOZ := Lib.hid hO
            have q0 := KZ.cell 0
            have q1 := KZ.cell 1
            have q2 := KZ.cell 2
            have q3 := KZ.cell 3
            clear KZ hO
            go_wp2
            simp only [← hwz]
            clear hwz
            refine bodyPost_ret (v := .tuple #[aggD (.slice x0 D.first.length y0) (.slice x1 D.goal.length y1) (.slice x2 D.made.length y2) (.slice x3 D.now.length y3), .bool false]) (by simp [results, Tryz.results51, go_sem, q0, q1, q2, q3]) rfl (RetDB.mk _ _ _ _ _ rfl ⟨?_, ?_, HZ.out⟩)
            · rw [HD.out]
              exact (HO2.out.outside HOZ.out (.inr (by omega))).wide (by omega) (by omega)
            · rw [HD.out]
          · have h7 : ml = D.made.length := by omega
            have h7' : (ml : Int) = (D.made.length : Int) := by omega
            have h6' : ¬ (60 : Int) < (ml : Int) := by omega
            clear hq h7
            have o0 := KO.out.cell 0
            have o1 := KO.out.cell 1
            have o2 := KO.out.cell 2
            have o3 := KO.out.cell 3
            have f0 := K3.out.free 0
            have f1 := K3.out.free 1
            have f2 := K3.out.free 2
            have f3 := K3.out.free 3
            have c0 := K3.out.cell 0
            have c1 := K3.out.cell 1
            have c2 := K3.out.cell 2
            have c3 := K3.out.cell 3
            obtain ⟨wz, hwz⟩ : ∃ wz, wz = (((w7.setCell ⟨w.heap.size + 1 + 1, 0, none⟩ (.slice x0 D.first.length y0)).setCell ⟨w.heap.size + 1 + 1, 1, none⟩ (.slice x1 D.goal.length y1)).setCell ⟨w.heap.size + 1 + 1, 2, none⟩ (.slice x2 D.made.length y2)).setCell ⟨w.heap.size + 1 + 1, 3, none⟩ (.slice x3 D.now.length y3) := ⟨_, rfl⟩
            have KZ := K3.out.set4 (.slice x0 D.first.length y0) (.slice x1 D.goal.length y1) (.slice x2 D.made.length y2) (.slice x3 D.now.length y3)
            have hO := Outside.set4 (w.heap.size + 1 + 1) w7 (.slice x0 D.first.length y0) (.slice x1 D.goal.length y1) (.slice x2 D.made.length y2) (.slice x3 D.now.length y3)
            rw [← hwz] at KZ hO
            have hsz := hO.size
            have HZ := Lib.hid (Below.outside HB.out hO (by omega) (by omega))
            have HOZ := Lib.hid hO
            have q0 := KZ.cell 0
            have q1 := KZ.cell 1
            have q2 := KZ.cell 2
            have q3 := KZ.cell 3
            clear KZ hO
            go_wp2
            simp only [← hwz]
            clear hwz
            refine bodyPost_ret (v := .tuple #[aggD (.slice x0 D.first.length y0) (.slice x1 D.goal.length y1) (.slice x2 D.made.length y2) (.slice x3 D.now.length y3), .bool false]) (by simp [results, Tryz.results51, go_sem, q0, q1, q2, q3]) rfl (RetDB.mk _ _ _ _ _ rfl ⟨?_, ?_, HZ.out⟩)
            · rw [HD.out]
              exact (HO2.out.outside HOZ.out (.inr (by omega))).wide (by omega) (by omega)
            · rw [HD.out]
        · have HQ := Lib.hid hq
          have h6 : ¬ 60 < ml := by omega
          have h6' : ¬ (60 : Int) < (ml : Int) := by omega
          have h7 : ¬ ml = D.made.length := by omega
          have h7' : ¬ (ml : Int) = (D.made.length : Int) := by omega
          clear hq
          have HD := Lib.hid (show deskDo D A = (⟨D.first, D.goal, ms, (proofV D.first ms).getD []⟩, true) by rw [deskDo_said HDV.out.symm, ← HR.out]; simp only [deskTo, HLEN.out]; rw [if_neg HQ.out])
          obtain ⟨nw, hnw⟩ : ∃ nw, nw = (proofV D.first ms).getD [] := ⟨_, rfl⟩
          rw [← hnw] at HD
          have HNW := Lib.hid hnw
          clear hnw
          have d0 := K1.out.cell 0
          have d1 := K1.out.cell 1
          have d2 := K1.out.cell 2
          have d3 := K1.out.cell 3
          go_wp2_with fail
          refine (spec_l10With _ _ _ _ a b _ d _ D ms w7 HX.out (by omega) HM.out HMS.out HL.out (by rw [HLEN.out]; omega) HK.out).mono ?_
          rintro e9 w9 ⟨z0, z1, z2, z3, rfl, ho9, hb9⟩
          rw [← HNW.out] at ho9
          obtain ⟨u0, t0, u1, t1, u2, t2, u3, t3, e0, e1, e2, e3⟩ := ho9.open
          change z0 = .slice u0 D.first.length t0 at e0
          change z1 = .slice u1 D.goal.length t1 at e1
          change z2 = .slice u2 ms.length t2 at e2
          change z3 = .slice u3 nw.length t3 at e3
          rw [HLEN.out] at e2
          subst e0 e1 e2 e3
          have HO9 := Lib.hid ho9
          have hs9 := hb9.size
          replace HB := Lib.hid (HB.out.trans (hb9.mono (by omega)))
          replace K3 := Lib.hid (K3.out.below hb9 (by omega))
          clear hb9 ho9 d0 d1 d2 d3
          have f0 := K3.out.free 0
          have f1 := K3.out.free 1
          have f2 := K3.out.free 2
          have f3 := K3.out.free 3
          have c0 := K3.out.cell 0
          have c1 := K3.out.cell 1
          have c2 := K3.out.cell 2
          have c3 := K3.out.cell 3
          obtain ⟨wz, hwz⟩ : ∃ wz, wz = (((w9.setCell ⟨w.heap.size + 1 + 1, 0, none⟩ (.slice u0 D.first.length t0)).setCell ⟨w.heap.size + 1 + 1, 1, none⟩ (.slice u1 D.goal.length t1)).setCell ⟨w.heap.size + 1 + 1, 2, none⟩ (.slice u2 ml t2)).setCell ⟨w.heap.size + 1 + 1, 3, none⟩ (.slice u3 nw.length t3) := ⟨_, rfl⟩
          have KZ := K3.out.set4 (.slice u0 D.first.length t0) (.slice u1 D.goal.length t1) (.slice u2 ml t2) (.slice u3 nw.length t3)
          have hO := Outside.set4 (w.heap.size + 1 + 1) w9 (.slice u0 D.first.length t0) (.slice u1 D.goal.length t1) (.slice u2 ml t2) (.slice u3 nw.length t3)
          rw [← hwz] at KZ hO
          have hsz := hO.size
          have HZ := Lib.hid (Below.outside HB.out hO (by omega) (by omega))
          have HOZ := Lib.hid hO
          have q0 := KZ.cell 0
          have q1 := KZ.cell 1
          have q2 := KZ.cell 2
          have q3 := KZ.cell 3
          clear KZ hO
          go_wp2
          simp only [← hwz]
          clear hwz
          refine bodyPost_ret (v := .tuple #[aggD (.slice u0 D.first.length t0) (.slice u1 D.goal.length t1) (.slice u2 ml t2) (.slice u3 nw.length t3), .bool true]) (by simp [results, Tryz.results51, go_sem, q0, q1, q2, q3]) rfl (RetDB.mk _ _ _ _ _ rfl ⟨?_, ?_, HZ.out⟩)
          · rw [HD.out]
            exact (HO9.out.outside HOZ.out (.inr (by omega))).wide (by omega) (by omega)
          · rw [HD.out]
    · rw [hk] at a0
      have a4 := K2.out.cell 4
      by_cases h1 : 1 ≤ A.count ∧ A.count ≤ D.made.length
      · obtain ⟨ml, hk2, hkl⟩ : ∃ k : Nat, (D.made.length : Int) - A.count = k ∧ k ≤ D.made.length := ⟨((D.made.length : Int) - A.count).toNat, by omega, by omega⟩
        have hin : inB A.count 1 (D.made.length : Int) = true := by simp [inB, h1]
        obtain ⟨ms, hms⟩ : ∃ ms, ms = D.made.take ml := ⟨_, rfl⟩
        have HR := Lib.hid (show some ms = madeS D A by
          have e1 : D.made.length - A.count.toNat = ml := by omega
          simp [madeS, ← HNB.out, hk, h1, hms, e1])
        have HLEN : Hid (ms.length = ml) := Lib.hid (by rw [hms]; simp; omega)
        have HMS := Lib.hid (show SlM w3.heap.size w5.heap.size w6 (.slice pa ml pc) ms by rw [hms]; exact SlM.front (OwnM.sl HO5.out) ml hkl)
        have HL : Hid (w5.heap.size ≤ w6.heap.size) := Lib.hid hs6
        have g3 : (0 : Int) ≤ ml := by omega
        have g4 : (ml : Int) ≤ pc := by omega
        have g5 : ml ≤ pc := by omega
        have HQ : Hid (¬ (ml > 60 ∨ ml = D.made.length)) := Lib.hid (by omega)
        have h6 : ¬ 60 < ml := by omega
        have h6' : ¬ (60 : Int) < (ml : Int) := by omega
        have h7 : ¬ ml = D.made.length := by omega
        have h7' : ¬ (ml : Int) = (D.made.length : Int) := by omega
        have h7b : ((ml : Int) == (D.made.length : Int)) = false := beq_false_of_ne h7'
        have hmb : ml ≤ 1048576 := by omega
        clear hk h1 hms
        have HD := Lib.hid (show deskDo D A = (⟨D.first, D.goal, ms, (proofV D.first ms).getD []⟩, true) by rw [deskDo_said HDV.out.symm, ← HR.out]; simp only [deskTo, HLEN.out]; rw [if_neg HQ.out])
        obtain ⟨nw, hnw⟩ : ∃ nw, nw = (proofV D.first ms).getD [] := ⟨_, rfl⟩
        rw [← hnw] at HD
        have HNW := Lib.hid hnw
        clear hnw
        have d0 := K1.out.cell 0
        have d1 := K1.out.cell 1
        have d2 := K1.out.cell 2
        have d3 := K1.out.cell 3
        go_wp2_with (go_at_call 55; refine (l1In_any _ _ _ _).mono ?_; rintro e w' ⟨rfl, rfl⟩)
        refine (spec_l10With _ _ _ _ a b _ d _ D ms w6 HX.out (by omega) HM.out HMS.out HL.out (by rw [HLEN.out]; omega) HK.out).mono ?_
        rintro e9 w9 ⟨z0, z1, z2, z3, rfl, ho9, hb9⟩
        rw [← HNW.out] at ho9
        obtain ⟨u0, t0, u1, t1, u2, t2, u3, t3, e0, e1, e2, e3⟩ := ho9.open
        change z0 = .slice u0 D.first.length t0 at e0
        change z1 = .slice u1 D.goal.length t1 at e1
        change z2 = .slice u2 ms.length t2 at e2
        change z3 = .slice u3 nw.length t3 at e3
        rw [HLEN.out] at e2
        subst e0 e1 e2 e3
        have HO9 := Lib.hid ho9
        have hs9 := hb9.size
        replace HB := Lib.hid (HB.out.trans (hb9.mono (by omega)))
        replace K3 := Lib.hid (K3.out.below hb9 (by omega))
        clear hb9 ho9 d0 d1 d2 d3
        have f0 := K3.out.free 0
        have f1 := K3.out.free 1
        have f2 := K3.out.free 2
        have f3 := K3.out.free 3
        have c0 := K3.out.cell 0
        have c1 := K3.out.cell 1
        have c2 := K3.out.cell 2
        have c3 := K3.out.cell 3
        obtain ⟨wz, hwz⟩ : ∃ wz, wz = (((w9.setCell ⟨w.heap.size + 1 + 1, 0, none⟩ (.slice u0 D.first.length t0)).setCell ⟨w.heap.size + 1 + 1, 1, none⟩ (.slice u1 D.goal.length t1)).setCell ⟨w.heap.size + 1 + 1, 2, none⟩ (.slice u2 ml t2)).setCell ⟨w.heap.size + 1 + 1, 3, none⟩ (.slice u3 nw.length t3) := ⟨_, rfl⟩
        have KZ := K3.out.set4 (.slice u0 D.first.length t0) (.slice u1 D.goal.length t1) (.slice u2 ml t2) (.slice u3 nw.length t3)
        have hO := Outside.set4 (w.heap.size + 1 + 1) w9 (.slice u0 D.first.length t0) (.slice u1 D.goal.length t1) (.slice u2 ml t2) (.slice u3 nw.length t3)
        rw [← hwz] at KZ hO
        have hsz := hO.size
        have HZ := Lib.hid (Below.outside HB.out hO (by omega) (by omega))
        have HOZ := Lib.hid hO
        have q0 := KZ.cell 0
        have q1 := KZ.cell 1
        have q2 := KZ.cell 2
        have q3 := KZ.cell 3
        clear KZ hO
        go_wp2
        simp only [← hwz]
        clear hwz
        refine bodyPost_ret (v := .tuple #[aggD (.slice u0 D.first.length t0) (.slice u1 D.goal.length t1) (.slice u2 ml t2) (.slice u3 nw.length t3), .bool true]) (by simp [results, Tryz.results51, go_sem, q0, q1, q2, q3]) rfl (RetDB.mk _ _ _ _ _ rfl ⟨?_, ?_, HZ.out⟩)
        · rw [HD.out]
          exact (HO9.out.outside HOZ.out (.inr (by omega))).wide (by omega) (by omega)
        · rw [HD.out]
      · have hin : inB A.count 1 (D.made.length : Int) = false := by simp [inB]; omega
        have HD := Lib.hid (show deskDo D A = (D, false) by
          have h2 : ¬ (A.kind = 1 ∧ 1 ≤ A.count ∧ A.count ≤ D.made.length) := fun h => h1 h.2
          have h3 : madeS D A = none := by
            unfold madeS
            rw [← HNB.out, if_neg h2]
            simp [hk]
          rw [deskDo_said HDV.out.symm, h3]
          rfl)
        clear hk h1
        have o0 := KO.out.cell 0
        have o1 := KO.out.cell 1
        have o2 := KO.out.cell 2
        have o3 := KO.out.cell 3
        have f0 := K3.out.free 0
        have f1 := K3.out.free 1
        have f2 := K3.out.free 2
        have f3 := K3.out.free 3
        have c0 := K3.out.cell 0
        have c1 := K3.out.cell 1
        have c2 := K3.out.cell 2
        have c3 := K3.out.cell 3
        obtain ⟨wz, hwz⟩ : ∃ wz, wz = (((w6.setCell ⟨w.heap.size + 1 + 1, 0, none⟩ (.slice x0 D.first.length y0)).setCell ⟨w.heap.size + 1 + 1, 1, none⟩ (.slice x1 D.goal.length y1)).setCell ⟨w.heap.size + 1 + 1, 2, none⟩ (.slice x2 D.made.length y2)).setCell ⟨w.heap.size + 1 + 1, 3, none⟩ (.slice x3 D.now.length y3) := ⟨_, rfl⟩
        have KZ := K3.out.set4 (.slice x0 D.first.length y0) (.slice x1 D.goal.length y1) (.slice x2 D.made.length y2) (.slice x3 D.now.length y3)
        have hO := Outside.set4 (w.heap.size + 1 + 1) w6 (.slice x0 D.first.length y0) (.slice x1 D.goal.length y1) (.slice x2 D.made.length y2) (.slice x3 D.now.length y3)
        rw [← hwz] at KZ hO
        have hsz := hO.size
        have HZ := Lib.hid (Below.outside HB.out hO (by omega) (by omega))
        have HOZ := Lib.hid hO
        have q0 := KZ.cell 0
        have q1 := KZ.cell 1
        have q2 := KZ.cell 2
        have q3 := KZ.cell 3
        clear KZ hO
        go_wp2_with (go_at_call 55; refine (l1In_any _ _ _ _).mono ?_; rintro e w' ⟨rfl, rfl⟩)
        simp only [← hwz]
        clear hwz
        refine bodyPost_ret (v := .tuple #[aggD (.slice x0 D.first.length y0) (.slice x1 D.goal.length y1) (.slice x2 D.made.length y2) (.slice x3 D.now.length y3), .bool false]) (by simp [results, Tryz.results51, go_sem, q0, q1, q2, q3]) rfl (RetDB.mk _ _ _ _ _ rfl ⟨?_, ?_, HZ.out⟩)
        · rw [HD.out]
          exact (HO2.out.outside HOZ.out (.inr (by omega))).wide (by omega) (by omega)
        · rw [HD.out]
    · rw [hk] at a0
      have HR := Lib.hid (show some (D.made ++ simpBy D.now) = madeS D A by simp [madeS, ← HNB.out, hk])
      have hsl := simpBy_len D.now
      clear hk
      have d3 := K1.out.cell 3
      go_wp2_with fail
      refine (spec_SimpleBy _ D.now w6 (SlI.rd HX.out.now (by omega)) (by omega)).mono ?_
      rintro e7 w7 ⟨v7, rfl, hb7, ho7⟩
      have hs7 := hb7.size
      replace HB := Lib.hid (HB.out.trans (hb7.mono (by omega)))
      replace K1 := Lib.hid (K1.out.below hb7 (by omega))
      replace K2 := Lib.hid (K2.out.below hb7 (by omega))
      replace K3 := Lib.hid (K3.out.below hb7 (by omega))
      replace KO := Lib.hid (KO.out.below hb7 (by omega))
      replace HX := Lib.hid (HX.out.below hb7 (by omega))
      replace HO2 := Lib.hid (HO2.out.below hb7 (by omega))
      replace HO5 := Lib.hid (OwnM.below HO5.out hb7 (by omega))
      obtain ⟨sa, sc, rfl⟩ := Own.shape ho7
      have HS7 := Lib.hid (OwnM.sl ho7)
      clear hb7 ho7 a0 d3
      go_wp2_with (at_builtin; go_loud (refine wpList_app_sl rfl _ _ 29 rfl 39 (.agg #[.int .i64 0, .bool false, .int .i64 0]) 3 24 Tryz.underlying29 info_mv rfl (by decide) (by decide) rfl HO5.out rfl HS7.out (mvs_one _) (by omega) (by omega) ?_))
      intro v8 w8 ho8 _ hout8 _
      have hs8 := hout8.size
      have hb8 : Below w3.heap.size w7 w8 := Below.outside ((Below.refl w7.heap.size w7).mono (by omega)) hout8 (Nat.le_refl _) (by omega)
      have hm8 : SlM w3.heap.size w8.heap.size w8 v8 (D.made ++ simpBy D.now) := by unfold SlM; rw [List.length_append, mvs_append]; exact Own.sl ho8
      obtain ⟨qa, qc, hv⟩ := Own.shape ho8
      obtain ⟨ml, hml⟩ : ∃ ml, ml = D.made.length + (simpBy D.now).length := ⟨_, rfl⟩
      rw [← hml] at hv
      subst hv
      obtain ⟨ms, hms⟩ : ∃ ms, ms = D.made ++ simpBy D.now := ⟨_, rfl⟩
      have HLEN : Hid (ms.length = ml) := Lib.hid (by rw [hms, hml]; simp)
      rw [← hms] at HR hm8
      have HMS := Lib.hid hm8
      have HL : Hid (w8.heap.size ≤ w8.heap.size) := Lib.hid (Nat.le_refl _)
      have hmb : ml ≤ 1048576 := by omega
      replace HB := Lib.hid (HB.out.trans (hb8.mono (by omega)))
      replace K1 := Lib.hid (K1.out.below hb8 (by omega))
      replace K2 := Lib.hid (K2.out.below hb8 (by omega))
      replace K3 := Lib.hid (K3.out.below hb8 (by omega))
      replace KO := Lib.hid (KO.out.below hb8 (by omega))
      replace HX := Lib.hid (HX.out.below hb8 (by omega))
      replace HO2 := Lib.hid (HO2.out.below hb8 (by omega))
      clear hb8 hout8 ho8 hm8 hms hml
      by_cases hq : ml > 60 ∨ ml = D.made.length
      · have HD := Lib.hid (show deskDo D A = (D, false) by rw [deskDo_said HDV.out.symm, ← HR.out]; simp only [deskTo, HLEN.out]; rw [if_pos hq])
        have d2 := K1.out.cell 2
        by_cases h6 : 60 < ml
        · have h6' : (60 : Int) < (ml : Int) := by omega
          clear hq
          have o0 := KO.out.cell 0
          have o1 := KO.out.cell 1
          have o2 := KO.out.cell 2
          have o3 := KO.out.cell 3
          have f0 := K3.out.free 0
          have f1 := K3.out.free 1
          have f2 := K3.out.free 2
          have f3 := K3.out.free 3
          have c0 := K3.out.cell 0
          have c1 := K3.out.cell 1
          have c2 := K3.out.cell 2
          have c3 := K3.out.cell 3
          obtain ⟨wz, hwz⟩ : ∃ wz, wz = (((w8.setCell ⟨w.heap.size + 1 + 1, 0, none⟩ (.slice x0 D.first.length y0)).setCell ⟨w.heap.size + 1 + 1, 1, none⟩ (.slice x1 D.goal.length y1)).setCell ⟨w.heap.size + 1 + 1, 2, none⟩ (.slice x2 D.made.length y2)).setCell ⟨w.heap.size + 1 + 1, 3, none⟩ (.slice x3 D.now.length y3) := ⟨_, rfl⟩
          have KZ := K3.out.set4 (.slice x0 D.first.length y0) (.slice x1 D.goal.length y1) (.slice x2 D.made.length y2) (.slice x3 D.now.length y3)
          have hO := Outside.set4 (w.heap.size + 1 + 1) w8 (.slice x0 D.first.length y0) (.slice x1 D.goal.length y1) (.slice x2 D.made.length y2) (.slice x3 D.now.length y3)
          rw [← hwz] at KZ hO
          have hsz := hO.size
          have HZ := Lib.hid (Below.outside HB.out hO (by omega) (by omega))
          have HOZ := Lib.hid hO
          have q0 := KZ.cell 0
          have q1 := KZ.cell 1
          have q2 := KZ.cell 2
          have q3 := KZ.cell 3
          clear KZ hO
          go_wp2
          simp only [← hwz]
          clear hwz
          refine bodyPost_ret (v := .tuple #[aggD (.slice x0 D.first.length y0) (.slice x1 D.goal.length y1) (.slice x2 D.made.length y2) (.slice x3 D.now.length y3), .bool false]) (by simp [results, Tryz.results51, go_sem, q0, q1, q2, q3]) rfl (RetDB.mk _ _ _ _ _ rfl ⟨?_, ?_, HZ.out⟩)
          · rw [HD.out]
            exact (HO2.out.outside HOZ.out (.inr (by omega))).wide (by omega) (by omega)
          · rw [HD.out]
        · have h7 : ml = D.made.length := by omega
          have h7' : (ml : Int) = (D.made.length : Int) := by omega
          have h6' : ¬ (60 : Int) < (ml : Int) := by omega
          clear hq h7
          have o0 := KO.out.cell 0
          have o1 := KO.out.cell 1
          have o2 := KO.out.cell 2
          have o3 := KO.out.cell 3
          have f0 := K3.out.free 0
          have f1 := K3.out.free 1
          have f2 := K3.out.free 2
          have f3 := K3.out.free 3
          have c0 := K3.out.cell 0
          have c1 := K3.out.cell 1
          have c2 := K3.out.cell 2
          have c3 := K3.out.cell 3
          obtain ⟨wz, hwz⟩ : ∃ wz, wz = (((w8.setCell ⟨w.heap.size + 1 + 1, 0, none⟩ (.slice x0 D.first.length y0)).setCell ⟨w.heap.size + 1 + 1, 1, none⟩ (.slice x1 D.goal.length y1)).setCell ⟨w.heap.size + 1 + 1, 2, none⟩ (.slice x2 D.made.length y2)).setCell ⟨w.heap.size + 1 + 1, 3, none⟩ (.slice x3 D.now.length y3) := ⟨_, rfl⟩
          have KZ := K3.out.set4 (.slice x0 D.first.length y0) (.slice x1 D.goal.length y1) (.slice x2 D.made.length y2) (.slice x3 D.now.length y3)
          have hO := Outside.set4 (w.heap.size + 1 + 1) w8 (.slice x0 D.first.length y0) (.slice x1 D.goal.length y1) (.slice x2 D.made.length y2) (.slice x3 D.now.length y3)
          rw [← hwz] at KZ hO
          have hsz := hO.size
          have HZ := Lib.hid (Below.outside HB.out hO (by omega) (by omega))
          have HOZ := Lib.hid hO
          have q0 := KZ.cell 0
          have q1 := KZ.cell 1
          have q2 := KZ.cell 2
          have q3 := KZ.cell 3
          clear KZ hO
          go_wp2
          simp only [← hwz]
          clear hwz
          refine bodyPost_ret (v := .tuple #[aggD (.slice x0 D.first.length y0) (.slice x1 D.goal.length y1) (.slice x2 D.made.length y2) (.slice x3 D.now.length y3), .bool false]) (by simp [results, Tryz.results51, go_sem, q0, q1, q2, q3]) rfl (RetDB.mk _ _ _ _ _ rfl ⟨?_, ?_, HZ.out⟩)
          · rw [HD.out]
            exact (HO2.out.outside HOZ.out (.inr (by omega))).wide (by omega) (by omega)
          · rw [HD.out]
      · have HQ := Lib.hid hq
        have h6 : ¬ 60 < ml := by omega
        have h6' : ¬ (60 : Int) < (ml : Int) := by omega
        have h7 : ¬ ml = D.made.length := by omega
        have h7' : ¬ (ml : Int) = (D.made.length : Int) := by omega
        clear hq
        have HD := Lib.hid (show deskDo D A = (⟨D.first, D.goal, ms, (proofV D.first ms).getD []⟩, true) by rw [deskDo_said HDV.out.symm, ← HR.out]; simp only [deskTo, HLEN.out]; rw [if_neg HQ.out])
        obtain ⟨nw, hnw⟩ : ∃ nw, nw = (proofV D.first ms).getD [] := ⟨_, rfl⟩
        rw [← hnw] at HD
        have HNW := Lib.hid hnw
        clear hnw
        have d0 := K1.out.cell 0
        have d1 := K1.out.cell 1
        have d2 := K1.out.cell 2
        have d3 := K1.out.cell 3
        go_wp2_with fail
        refine (spec_l10With _ _ _ _ a b _ d _ D ms w8 HX.out (by omega) HM.out HMS.out HL.out (by rw [HLEN.out]; omega) HK.out).mono ?_
        rintro e9 w9 ⟨z0, z1, z2, z3, rfl, ho9, hb9⟩
        rw [← HNW.out] at ho9
        obtain ⟨u0, t0, u1, t1, u2, t2, u3, t3, e0, e1, e2, e3⟩ := ho9.open
        change z0 = .slice u0 D.first.length t0 at e0
        change z1 = .slice u1 D.goal.length t1 at e1
        change z2 = .slice u2 ms.length t2 at e2
        change z3 = .slice u3 nw.length t3 at e3
        rw [HLEN.out] at e2
        subst e0 e1 e2 e3
        have HO9 := Lib.hid ho9
        have hs9 := hb9.size
        replace HB := Lib.hid (HB.out.trans (hb9.mono (by omega)))
        replace K3 := Lib.hid (K3.out.below hb9 (by omega))
        clear hb9 ho9 d0 d1 d2 d3
        have f0 := K3.out.free 0
        have f1 := K3.out.free 1
        have f2 := K3.out.free 2
        have f3 := K3.out.free 3
        have c0 := K3.out.cell 0
        have c1 := K3.out.cell 1
        have c2 := K3.out.cell 2
        have c3 := K3.out.cell 3
        obtain ⟨wz, hwz⟩ : ∃ wz, wz = (((w9.setCell ⟨w.heap.size + 1 + 1, 0, none⟩ (.slice u0 D.first.length t0)).setCell ⟨w.heap.size + 1 + 1, 1, none⟩ (.slice u1 D.goal.length t1)).setCell ⟨w.heap.size + 1 + 1, 2, none⟩ (.slice u2 ml t2)).setCell ⟨w.heap.size + 1 + 1, 3, none⟩ (.slice u3 nw.length t3) := ⟨_, rfl⟩
        have KZ := K3.out.set4 (.slice u0 D.first.length t0) (.slice u1 D.goal.length t1) (.slice u2 ml t2) (.slice u3 nw.length t3)
        have hO := Outside.set4 (w.heap.size + 1 + 1) w9 (.slice u0 D.first.length t0) (.slice u1 D.goal.length t1) (.slice u2 ml t2) (.slice u3 nw.length t3)
        rw [← hwz] at KZ hO
        have hsz := hO.size
        have HZ := Lib.hid (Below.outside HB.out hO (by omega) (by omega))
        have HOZ := Lib.hid hO
        have q0 := KZ.cell 0
        have q1 := KZ.cell 1
        have q2 := KZ.cell 2
        have q3 := KZ.cell 3
        clear KZ hO
        go_wp2
        simp only [← hwz]
        clear hwz
        refine bodyPost_ret (v := .tuple #[aggD (.slice u0 D.first.length t0) (.slice u1 D.goal.length t1) (.slice u2 ml t2) (.slice u3 nw.length t3), .bool true]) (by simp [results, Tryz.results51, go_sem, q0, q1, q2, q3]) rfl (RetDB.mk _ _ _ _ _ rfl ⟨?_, ?_, HZ.out⟩)
        · rw [HD.out]
          exact (HO9.out.outside HOZ.out (.inr (by omega))).wide (by omega) (by omega)
        · rw [HD.out]
end

section

/-- An act behind acts. -/
def stepA (p : Dsk × Int) (a : Ac) : Dsk × Int := ((deskDo p.1 a).1, if (deskDo p.1 a).2 then p.2 + 1 else p.2)
def runA (D : Dsk) (l : List Ac) : Dsk × Int := l.foldl stepA (D, 0)
def deskRun (D : Dsk) (l : List Ac) : Dsk × Int := if deskV D = true ∧ l.length ≤ 40 then runA D l else (Dsk.none, 0)
theorem runA_snoc (D : Dsk) (l : List Ac) (k : Nat) (h : k < l.length) : runA D (l.take (k + 1)) = stepA (runA D (l.take k)) l[k] := by
  unfold runA
  rw [List.take_succ_eq_append_getElem h, List.foldl_append]
  rfl
theorem deskDo_no {D : Dsk} {a : Ac} (h : deskV D = true) (h2 : (deskDo D a).2 = false) : (deskDo D a).1 = D := by
  unfold deskDo at h2 ⊢
  rw [if_pos h] at h2 ⊢
  split at h2 <;> simp_all
theorem deskDo_valid {D : Dsk} (a : Ac) (h : deskV D = true) : deskV (deskDo D a).1 = true := by
  have hg := (deskV_parts h).2.1
  unfold deskDo
  rw [if_pos h]
  split
  · rename_i p hp
    cases hm : madeV D a with
    | none => rw [hm] at hp; cases hp
    | some ms =>
      rw [hm] at hp
      cases hq : proofV D.first ms with
      | none => simp [hq] at hp
      | some x =>
        simp [hq] at hp
        subst hp
        simp [deskV, hq, hg, eqL]
  · exact h
theorem runA_valid {D : Dsk} (h : deskV D = true) : ∀ l : List Ac, deskV (runA D l).1 = true := by
  have key : ∀ (l : List Ac) (p : Dsk × Int), deskV p.1 = true → deskV (l.foldl stepA p).1 = true := by
    intro l
    induction l with
    | nil => intro p hp; exact hp
    | cons a r ih => intro p hp; exact ih _ (deskDo_valid a hp)
  exact fun l => key l _ h
theorem deskV_size {D : Dsk} (h : deskV D = true) : D.size ≤ 180 := by
  obtain ⟨h1, h2, h3, h4, _⟩ := deskV_parts h
  have k1 := (kat_len h1).2
  have k2 := (kat_len h2).2
  have k3 := (kat_len h3).2
  unfold Dsk.size
  omega
theorem runA_many (D : Dsk) : ∀ l : List Ac, 0 ≤ (runA D l).2 ∧ (runA D l).2 ≤ l.length := by
  have key : ∀ (l : List Ac) (p : Dsk × Int), p.2 ≤ (l.foldl stepA p).2 ∧ (l.foldl stepA p).2 ≤ p.2 + l.length := by
    intro l
    induction l with
    | nil => intro p; simp
    | cons a r ih =>
      intro p
      have h := ih (stepA p a)
      have h2 : p.2 ≤ (stepA p a).2 ∧ (stepA p a).2 ≤ p.2 + 1 := by
        unfold stepA
        split <;> simp <;> omega
      simp only [List.foldl_cons, List.length_cons]
      omega
  intro l
  have := key l (D, 0)
  simpa [runA] using this
/-- What the paper's desk of moves is, at a desk that counts. -/
theorem deskV_with {D : Dsk} (h : deskV D = true) : (⟨D.first, D.goal, D.made, (proofV D.first D.made).getD []⟩ : Dsk) = D := by
  obtain ⟨_, _, _, _, h5⟩ := deskV_parts h
  rw [h5]
  rfl
end

section

theorem tryMv_none {e : List Int} : ∀ {l : List Mv}, tryMv e l = none → ∀ m ∈ l, moveV e m = none
  | [], _, m, hm => by cases hm
  | a :: r, h, m, hm => by
    simp only [tryMv] at h
    cases ha : moveV e a with
    | some x => rw [ha] at h; cases h
    | none =>
      rw [ha] at h
      rcases List.mem_cons.1 hm with rfl | hm
      · exact ha
      · exact tryMv_none h m hm
theorem simpM_done : ∀ (n : Nat) (e : List Int), e.length ≤ n → firstEasy (simpM e).2 = none
  | n, e, hn => by
    cases h : firstEasy e with
    | none => rw [simpM_none h]; exact h
    | some p =>
      obtain ⟨m, x⟩ := p
      rw [simpM_some h]
      have hx := (firstEasy_some h).2.2.1
      match n with
      | 0 => omega
      | n + 1 => exact simpM_done n x (by omega)
theorem simpM_back : ∀ (n : Nat) (e : List Int), e.length ≤ n → ∀ m ∈ (simpM e).1, m.back = false
  | n, e, hn, m, hm => by
    cases h : firstEasy e with
    | none => rw [simpM_none h] at hm; cases hm
    | some p =>
      obtain ⟨m', x⟩ := p
      rw [simpM_some h] at hm
      have hx := firstEasy_some h
      match n with
      | 0 => omega
      | n + 1 =>
        rcases List.mem_cons.1 hm with rfl | hm
        · exact hx.2.1
        · exact simpM_back n x (by omega) m hm
theorem simpBy_back {e : List Int} : ∀ m ∈ simpBy e, m.back = false := by
  intro m hm
  unfold simpBy at hm
  split at hm
  · exact simpM_back _ e (Nat.le_refl _) m hm
  · cases hm
theorem simpE_kat {e : List Int} (h : katV e = true) : katV (simpE e) = true := by
  rw [simpE, if_pos h]
  exact proofV_kat (proofV_simpM h)
theorem simpBy_short {e : List Int} (h : katV e = true) : (simpBy e).length < e.length := by
  have h1 := simpM_bd _ e (Nat.le_refl _)
  have h2 := (kat_len (proofV_kat (proofV_simpM h))).1
  rw [simpBy, if_pos h]
  omega
theorem okV_simp {e : List Int} (h : katV e = true) : okV e (simpE e) (simpBy e) = true := by
  rw [okV, simpBy, simpE, if_pos h, if_pos h, proofV_simpM h]
  simp [eqL]
theorem atV_mem {e : List Int} {a x : Int} : ∀ {k : Nat}, x ∈ atV e a k ↔ ∃ j : Nat, j < k ∧ x = j ∧ (moveV e ⟨(j : Nat), false, a⟩).isSome = true
  | 0 => by simp [atV]
  | k + 1 => by
    rw [atV, List.mem_append, atV_mem]
    constructor
    · rintro (⟨j, h1, h2, h3⟩ | h)
      · exact ⟨j, by omega, h2, h3⟩
      · split at h
        · rename_i h3
          simp at h
          exact ⟨k, by omega, h, h3⟩
        · cases h
    · rintro ⟨j, h1, h2, h3⟩
      by_cases hj : j < k
      · exact .inl ⟨j, hj, h2, h3⟩
      · obtain rfl : j = k := by omega
        right
        rw [if_pos h3, h2]
        simp
/-- No easy rule fits any more behind the easy ones. -/
theorem atV_easy {e : List Int} (h : firstEasy e = none) {a : Nat} (ha : a < e.length) {x : Int} (hx : x ∈ atV e a 21) : ¬ x.toNat ∈ easyN := by
  obtain ⟨j, h1, rfl, h3⟩ := atV_mem.1 hx
  intro hm
  have hin : (⟨((j : Nat) : Int), false, (a : Int)⟩ : Mv) ∈ easyMv e := by
    unfold easyMv
    rw [List.mem_flatMap]
    exact ⟨a, by simpa using ha, by rw [List.mem_map]; exact ⟨j, by simpa using hm, rfl⟩⟩
  rw [tryMv_none h _ hin] at h3
  cases h3
theorem simpE_done {e : List Int} (h : katV e = true) : firstEasy (simpE e) = none := by
  rw [simpE, if_pos h]
  exact simpM_done _ e (Nat.le_refl _)
theorem atV_ascend (e : List Int) (a : Int) : ∀ k : Nat, (atV e a k).Pairwise (· < ·)
  | 0 => by simp [atV]
  | k + 1 => by
    rw [atV, List.pairwise_append]
    refine ⟨atV_ascend e a k, by split <;> simp, fun x hx y hy => ?_⟩
    obtain ⟨j, h1, rfl, _⟩ := atV_mem.1 hx
    split at hy
    · simp at hy
      omega
    · cases hy
/-- What a done act leads to. -/
theorem deskDo_open {D X : Dsk} {a : Ac} (h : deskDo D a = (X, true)) : deskV D = true ∧ ∃ ms, madeV D a = some ms ∧ ∃ x, proofV D.first ms = some x ∧ X = ⟨D.first, D.goal, ms, x⟩ := by
  unfold deskDo at h
  split at h
  · rename_i hv
    refine ⟨hv, ?_⟩
    cases hm : madeV D a with
    | none => rw [hm] at h; cases h
    | some ms =>
      rw [hm] at h
      cases hp : proofV D.first ms with
      | none => simp [hp] at h
      | some x =>
        simp [hp] at h
        exact ⟨ms, rfl, x, hp, h.symm⟩
  · cases h
/-- How the moves behind a done act lie to those before it. -/
theorem madeV_open {D : Dsk} {a : Ac} {ms : List Mv} (h : madeV D a = some ms) :
    namedB a = true ∧ (a.kind = 1 ∧ (∃ k : Nat, k < D.made.length ∧ ms = D.made.take k) ∨ a.kind ≠ 1 ∧ ∃ r, r ≠ [] ∧ ms = D.made ++ r) := by
  unfold madeV at h
  split at h
  · rename_i hn
    refine ⟨hn, ?_⟩
    split at h
    · rename_i h0
      injection h with h
      exact .inr ⟨by omega, [a.step], by simp, h.symm⟩
    · split at h
      · rename_i h1
        split at h
        · rename_i h2
          injection h with h
          exact .inl ⟨h1, _, by omega, h.symm⟩
        · cases h
      · rename_i h1
        split at h
        · cases h
        · rename_i h2
          injection h with h
          exact .inr ⟨h1, _, h2, h.symm⟩
  · cases h
/-- A done act changes how many moves there are. -/
theorem madeV_ne {D : Dsk} {a : Ac} {ms : List Mv} (h : madeV D a = some ms) : ms.length ≠ D.made.length := by
  obtain ⟨_, ⟨_, k, hk, rfl⟩ | ⟨_, r, hr, rfl⟩⟩ := madeV_open h
  · simp; omega
  · have := List.length_pos_iff.2 hr
    simp; omega
/-- Taking back as many moves as were made leads to the same desk. -/
theorem deskDo_back {D X : Dsk} {a : Ac} (h : deskDo D a = (X, true)) (hk : a.kind ≠ 1) : deskDo X ⟨1, ⟨0, false, 0⟩, (X.made.length : Int) - D.made.length⟩ = (D, true) := by
  obtain ⟨hv, ms, hm, x, hp, rfl⟩ := deskDo_open h
  have hvX : deskV ⟨D.first, D.goal, ms, x⟩ = true := by
    have := deskDo_valid a hv
    rwa [h] at this
  obtain ⟨_, ⟨h1, _⟩ | ⟨_, r, hr, rfl⟩⟩ := madeV_open hm
  · exact absurd h1 hk
  · have hpos := List.length_pos_iff.2 hr
    have hp0 := (deskV_parts hv).2.2.2.2
    have hn : namedB ⟨1, ⟨0, false, 0⟩, ((D.made ++ r).length : Int) - D.made.length⟩ = true := by simp [namedB, zMv]
    have hmv : madeV ⟨D.first, D.goal, D.made ++ r, x⟩ ⟨1, ⟨0, false, 0⟩, ((D.made ++ r).length : Int) - D.made.length⟩ = some D.made := by
      have e1 : ((D.made ++ r).length : Int) - D.made.length = r.length := by simp; omega
      have e2 : (D.made ++ r).take ((D.made ++ r).length - (r.length : Int).toNat) = D.made := by
        rw [show (D.made ++ r).length - (r.length : Int).toNat = D.made.length by simp]
        simp
      have e3 : (1 : Int) ≤ r.length ∧ (r.length : Int) ≤ (D.made ++ r).length := by simp; omega
      rw [madeV, if_pos hn]
      simp only [e1]
      rw [if_neg (by decide), if_pos trivial, if_pos e3, e2]
    unfold deskDo
    rw [if_pos hvX, hmv]
    simp [hp0]
theorem deskDo_ok {D X : Dsk} {a : Ac} (h : deskDo D a = (X, true)) : deskV X = true ∧ X.made.length ≠ D.made.length ∧ X.first = D.first ∧ X.goal = D.goal ∧ okV X.first X.now X.made = true := by
  obtain ⟨hv, ms, hm, x, hp, rfl⟩ := deskDo_open h
  refine ⟨?_, madeV_ne hm, rfl, rfl, ?_⟩
  · have := deskDo_valid a hv
    rwa [h] at this
  · simp [okV, hp, eqL]
/-- Proofs in two parts. -/
theorem proofV_parts {e x : List Int} {ms : List Mv} (h : proofV e ms = some x) (k : Nat) : ∃ y, proofV e (ms.take k) = some y ∧ proofV y (ms.drop k) = some x := by
  obtain ⟨y, hy⟩ := proofV_front h k
  refine ⟨y, hy, ?_⟩
  obtain ⟨h1, h2, h3⟩ := proofV_iff.1 h
  obtain ⟨_, _, h4⟩ := proofV_iff.1 hy
  refine proofV_iff.2 ⟨proofV_kat hy, by simp; omega, ?_⟩
  have h5 := runM_append (ms.take k) (ms.drop k) e
  rw [List.take_append_drop, h3, h4] at h5
  exact h5.symm
end

section

set_option maxRecDepth 100000 in
set_option maxHeartbeats 3200000 in
theorem spec_l10WithG (lo hi lo' hi' : Nat) (a b c d vm : Value) (D : Dsk) (ms : List Mv) (w : World) (hx : DeskAt lo hi w a b c d D) (hh : hi ≤ w.heap.size) (hm : D.size ≤ 1048576) (hms : SlM lo' hi' w vm ms) (hh' : hi' ≤ w.heap.size) (hml : ms.length ≤ 1048576) :
    Calls Tryz.prog 53 #[aggD a b c d, vm] w (DeskRet w ⟨(deskNew D.first D.goal).first, (deskNew D.first D.goal).goal, ms, (proofV D.first ms).getD []⟩) := by
  unfold Dsk.size at hm
  obtain ⟨w0, hw0⟩ : ∃ w0, w0 = (w.alloc (.cells #[a, b, c, d] 31)).alloc (.cells #[.slice none 0 0, .slice none 0 0, .slice none 0 0, .slice none 0 0] 31) := ⟨_, rfl⟩
  have HB : Hid (Below w.heap.size w w0) := by rw [hw0]; exact Lib.hid (((Below.refl _ _).alloc (Nat.le_refl _) _).alloc (by simp) _)
  have K1 : Hid (Blk w.heap.size (.cells #[a, b, c, d] 31) w0) := by
    rw [hw0]
    exact Lib.hid ((Blk.new w _).below ((Below.refl (w.alloc _).heap.size _).alloc (Nat.le_refl _) _) (by simp))
  have K2 : Hid (Blk (w.heap.size + 1) (.cells #[.slice none 0 0, .slice none 0 0, .slice none 0 0, .slice none 0 0] 31) w0) := by
    have h := Blk.new (w.alloc (.cells #[a, b, c, d] 31)) (.cells #[.slice none 0 0, .slice none 0 0, .slice none 0 0, .slice none 0 0] 31)
    rw [alloc_size] at h
    rw [hw0]; exact Lib.hid h
  have hs0 : w0.heap.size = w.heap.size + 2 := by rw [hw0]; simp
  have HX := Lib.hid (hx.below HB.out hh)
  have HMS := Lib.hid (Sl.below hms HB.out hh')
  have HW0 := Lib.hid hw0
  obtain ⟨ma, mc, rfl, hmc, hmm⟩ := hms.shape
  clear hx hms hw0
  have d0 := K1.out.cell 0
  have d1 := K1.out.cell 1
  go_enter Tryz.func53, Tryz.ntmps53
  go_wp2_with (rw [← HW0.out])
  refine (spec_DeskNew _ _ _ _ a b D.first D.goal w0 HX.out.first HX.out.goal (by omega) (by omega) (by omega) (by omega)).mono ?_
  rintro e1 w1 ⟨x0, x1, x2, x3, rfl, ho1, hb1⟩
  obtain ⟨N, hN⟩ : ∃ N, N = deskNew D.first D.goal := ⟨_, rfl⟩
  have hNm : N.made.length = 0 := by
    rw [hN]
    unfold deskNew
    split <;> rfl
  have hNs : N.first.length + N.goal.length + N.now.length ≤ 3145728 := by
    rw [hN]
    unfold deskNew
    split <;> simp [Dsk.none] <;> omega
  rw [← hN] at ho1
  have HN := Lib.hid hN
  clear hN
  obtain ⟨p0, q0, p1, q1, p2, q2, p3, q3, e0, e1, e2, e3⟩ := ho1.open
  change x0 = .slice p0 N.first.length q0 at e0
  change x1 = .slice p1 N.goal.length q1 at e1
  rw [hNm] at e2
  change x3 = .slice p3 N.now.length q3 at e3
  subst e0 e1 e2 e3
  have hs1 := hb1.size
  replace HB := Lib.hid (HB.out.trans (hb1.mono (by omega)))
  replace K1 := Lib.hid (K1.out.below hb1 K1.out.lt)
  replace K2 := Lib.hid (K2.out.below hb1 K2.out.lt)
  replace HX := Lib.hid (HX.out.below hb1 (by omega))
  replace HMS := Lib.hid (Sl.below HMS.out hb1 (by omega))
  have HO1 := Lib.hid ho1
  clear hb1 ho1 d0 d1
  have d0 := K1.out.cell 0
  have f0 := K2.out.free 0
  have f1 := K2.out.free 1
  have f2 := K2.out.free 2
  have f3 := K2.out.free 3
  have c0 := K2.out.cell 0
  have c1 := K2.out.cell 1
  have c2 := K2.out.cell 2
  have c3 := K2.out.cell 3
  obtain ⟨wo, hwo⟩ : ∃ wo, wo = w1.alloc (.cells #[.slice p0 N.first.length q0, .slice p1 N.goal.length q1, .slice p2 0 q2, .slice p3 N.now.length q3] 31) := ⟨_, rfl⟩
  have KO : Hid (Blk w1.heap.size (.cells #[.slice p0 N.first.length q0, .slice p1 N.goal.length q1, .slice p2 0 q2, .slice p3 N.now.length q3] 31) wo) := by rw [hwo]; exact Lib.hid (Blk.new w1 _)
  have hbo : Below w1.heap.size w1 wo := by rw [hwo]; exact (Below.refl _ _).alloc (Nat.le_refl _) _
  have hso : wo.heap.size = w1.heap.size + 1 := by rw [hwo]; simp
  have HWO := Lib.hid hwo
  clear hwo
  have OE : Hid (Own 3 (w1.heap.size + 1) (w1.heap.size + 2) 39 (wo.alloc (.cells #[] 39)) (.slice (some ⟨w1.heap.size + 1, 0, none⟩) 0 0) 0 []) := by
    have h := Own.lit 3 39 wo [] 0 (by omega) rfl
    rw [hso] at h
    exact Lib.hid h
  have hbe : Below w1.heap.size w1 (wo.alloc (.cells #[] 39)) := hbo.alloc (by omega) _
  have HME := Lib.hid (Sl.below HMS.out hbe (by omega))
  have hze : (wo.alloc (.cells #[] 39)).heap.size = w1.heap.size + 2 := by simp; omega
  go_wp2_with (at_builtin; go_loud (rw [← HWO.out]; refine wpList_app_sl rfl _ _ 29 rfl 39 (.agg #[.int .i64 0, .bool false, .int .i64 0]) 3 24 Tryz.underlying29 info_mv rfl (by decide) (by decide) rfl OE.out rfl HME.out (mvs_one _) (by omega) (by omega) ?_))
  intro v5 w5 ho5 _ hout5 _
  have hs5 := hout5.size
  have KO5 := Lib.hid ((KO.out.below ((Below.refl wo.heap.size wo).alloc (o := .cells #[] 39) (Nat.le_refl _)) KO.out.lt).outside hout5 (by omega))
  have hb5 : Below w1.heap.size w1 w5 := Below.outside hbe hout5 (by omega) (by omega)
  have HO5 : Hid (OwnM (w1.heap.size + 1) w5.heap.size 39 w5 v5 ms) := Lib.hid (by unfold OwnM; simpa using ho5)
  obtain ⟨pa, pc, rfl⟩ := Own.shape ho5
  replace HB := Lib.hid (HB.out.trans (hb5.mono (by omega)))
  replace K1 := Lib.hid (K1.out.below hb5 K1.out.lt)
  replace K2 := Lib.hid (K2.out.below hb5 K2.out.lt)
  replace HX := Lib.hid (HX.out.below hb5 (by omega))
  replace HMS := Lib.hid (Sl.below HMS.out hb5 (by omega))
  replace HO1 := Lib.hid (HO1.out.below hb5 (Nat.le_refl _))
  clear ho5 hout5 hb5 hbe OE HME d0 f0 f1 f2 f3 c0 c1 c2 c3
  have d0 := K1.out.cell 0
  have f2 := KO5.out.free 2
  have c2 := KO5.out.cell 2
  obtain ⟨w6, hw6⟩ : ∃ w6, w6 = w5.setCell ⟨w1.heap.size, 2, none⟩ (.slice pa ms.length pc) := ⟨_, rfl⟩
  have KO6 := Lib.hid (show Blk w1.heap.size _ w6 by rw [hw6]; exact KO5.out.put 2 (.slice pa ms.length pc))
  have hO6 : Outside w1.heap.size (w1.heap.size + 1) w5 w6 := by rw [hw6]; exact Outside.put w1.heap.size 2 w5 _
  have hs6 := hO6.size
  have HW6 := Lib.hid hw6
  replace HB := Lib.hid (Below.outside HB.out hO6 (by omega) (by omega))
  replace K1 := Lib.hid (K1.out.outside hO6 (by omega))
  replace K2 := Lib.hid (K2.out.outside hO6 (by omega))
  replace HX := Lib.hid (HX.out.outside hO6 (.inl (by omega)))
  replace HMS := Lib.hid (Sl.outside HMS.out hO6 (.inl (by omega)))
  replace HO1 := Lib.hid (HO1.out.outside hO6 (.inl (by omega)))
  replace HO5 := Lib.hid (OwnM.outside HO5.out hO6 (.inr (by omega)))
  clear hw6 hO6
  have d6 := K1.out.cell 0
  go_wp2_with (rw [← HW6.out])
  refine (spec_ProofRun _ _ _ _ a _ D.first ms w6 HX.out.first (by omega) HMS.out hml).mono ?_
  rintro e3 w7 ⟨v7, ok7, rfl, hb7, hok7, ho7⟩
  have hs7 := hb7.size
  obtain ⟨pn, pm, rfl, _⟩ := Own.open ho7
  replace HB := Lib.hid (HB.out.trans (hb7.mono (by omega)))
  replace K2 := Lib.hid (K2.out.below hb7 K2.out.lt)
  have KO7 := Lib.hid (KO6.out.below hb7 KO6.out.lt)
  replace HO1 := Lib.hid (HO1.out.below hb7 (by omega))
  replace HO5 := Lib.hid (OwnM.below HO5.out hb7 (by omega))
  obtain ⟨w8, hw8⟩ : ∃ w8, w8 = w7.setCell ⟨w1.heap.size, 3, none⟩ (.slice pn ((proofV D.first ms).getD []).length pm) := ⟨_, rfl⟩
  have KO8 := Lib.hid (show Blk w1.heap.size _ w8 by rw [hw8]; exact KO7.out.put 3 (.slice pn ((proofV D.first ms).getD []).length pm))
  have hO8 : Outside w1.heap.size (w1.heap.size + 1) w7 w8 := by rw [hw8]; exact Outside.put w1.heap.size 3 w7 _
  have hs8 := hO8.size
  have HW8 := Lib.hid hw8
  replace HB := Lib.hid (Below.outside HB.out hO8 (by omega) (by omega))
  replace K2 := Lib.hid (K2.out.outside hO8 (by omega))
  replace HO1 := Lib.hid (HO1.out.outside hO8 (.inl (by omega)))
  replace HO5 := Lib.hid (OwnM.outside HO5.out hO8 (.inr (by omega)))
  have HO7 := Lib.hid (OwnI.outside ho7 hO8 (.inr (by omega)))
  clear hw8 hO8 d0 d6 f2 c2 hb7 ho7
  have f3 := KO7.out.free 3
  have c3 := KO7.out.cell 3
  have o0 := KO8.out.cell 0
  have o1 := KO8.out.cell 1
  have o2 := KO8.out.cell 2
  have o3 := KO8.out.cell 3
  have g0 := K2.out.free 0
  have g1 := K2.out.free 1
  have g2 := K2.out.free 2
  have g3 := K2.out.free 3
  have h0 := K2.out.cell 0
  have h1 := K2.out.cell 1
  have h2 := K2.out.cell 2
  have h3 := K2.out.cell 3
  obtain ⟨wz, hwz⟩ : ∃ wz, wz = (((w8.setCell ⟨w.heap.size + 1, 0, none⟩ (.slice p0 N.first.length q0)).setCell ⟨w.heap.size + 1, 1, none⟩ (.slice p1 N.goal.length q1)).setCell ⟨w.heap.size + 1, 2, none⟩ (.slice pa ms.length pc)).setCell ⟨w.heap.size + 1, 3, none⟩ (.slice pn ((proofV D.first ms).getD []).length pm) := ⟨_, rfl⟩
  have KZ := K2.out.set4 (.slice p0 N.first.length q0) (.slice p1 N.goal.length q1) (.slice pa ms.length pc) (.slice pn ((proofV D.first ms).getD []).length pm)
  have hO := Outside.set4 (w.heap.size + 1) w8 (.slice p0 N.first.length q0) (.slice p1 N.goal.length q1) (.slice pa ms.length pc) (.slice pn ((proofV D.first ms).getD []).length pm)
  rw [← hwz] at KZ hO
  have hsz := hO.size
  have HZ := Lib.hid (Below.outside HB.out hO (by omega) (by omega))
  have HOZ := Lib.hid hO
  have r0 := KZ.cell 0
  have r1 := KZ.cell 1
  have r2 := KZ.cell 2
  have r3 := KZ.cell 3
  clear KZ hO
  go_wp2_with (rw [← HW8.out])
  simp only [← hwz]
  clear hwz
  refine bodyPost_ret (v := aggD (.slice p0 N.first.length q0) (.slice p1 N.goal.length q1) (.slice pa ms.length pc) (.slice pn ((proofV D.first ms).getD []).length pm)) (by simp [results, Tryz.results53, go_sem, r0, r1, r2, r3]) rfl (RetD.mk _ _ _ _ rfl ⟨?_, HZ.out⟩)
  obtain ⟨l1, h1, l2, h2, l3, h3, l4, h4, o1, o2, o3, o4, r1, r2, r3, r4, rest⟩ := HO1.out.outside HOZ.out (.inr (by omega))
  exact ⟨l1, h1, l2, h2, w1.heap.size + 1, w5.heap.size, w6.heap.size, w7.heap.size, (by rw [← HN.out]; exact o1), (by rw [← HN.out]; exact o2), OwnM.outside HO5.out HOZ.out (.inr (by omega)), OwnI.outside HO7.out HOZ.out (.inr (by omega)), by omega, by omega, by omega, by omega, rest.1, .inl (by omega), .inl (by omega), .inl (by omega), .inl (by omega), .inl (by omega)⟩
end
end Go.Proofs.YtipbanhelhidnaaGreatDoor
