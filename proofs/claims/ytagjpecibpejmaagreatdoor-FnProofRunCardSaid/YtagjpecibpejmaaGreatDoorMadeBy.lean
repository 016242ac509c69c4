/-
  Texts of walks and plain lemmas for this seat; no condition.
-/
import Derived.Test.YtagjpecibpejmaaGreatDoorCloneM
import Derived.Test.YtagjpecibpejmaaGreatDoorGJ
import Derived.Test.YtagjpecibpejmaaGreatDoorAct
namespace Go.Proofs.YtagjpecibpejmaaGreatDoor
open Go.RowKit

/-- The moves behind an act, if it can be done so far. -/
def madeV (D : Dsk) (a : Ac) : Option (List Mv) :=
  if namedB a then
    if a.kind = 0 then some (D.made ++ [a.step])
    else if a.kind = 1 then (if 1 ≤ a.count ∧ a.count ≤ D.made.length then some (D.made.take (D.made.length - a.count.toNat)) else none)
    else (if simpBy D.now = [] then none else some (D.made ++ simpBy D.now))
  else none
/-- A desk behind an act. -/
def deskDo (D : Dsk) (a : Ac) : Dsk × Bool :=
  if deskV D then
    match (madeV D a).bind fun ms => (proofV D.first ms).map fun x => (ms, x) with
    | some p => (⟨D.first, D.goal, p.1, p.2⟩, true)
    | none => (D, false)
  else (Dsk.none, false)
abbrev aggA (a : Ac) : Value := .agg #[.int .i64 a.kind, .int .i64 a.step.which, .bool a.step.back, .int .i64 a.step.at_, .int .i64 a.count]
theorem SlM.front {lo hi n cap : Nat} {w : World} {a : Option Addr} {xs : List Mv} (h : SlM lo hi w (.slice a n cap) xs) (j : Nat) (hj : j ≤ xs.length) : SlM lo hi w (.slice a j cap) (xs.take j) := by
  obtain ⟨a', cap', e, h1, h2, h3, h4, h5⟩ := h
  injection e with e1 e2 e3
  subst e1 e2 e3
  have hl : (xs.take j).length = j := by simp; omega
  have hxs : mvs xs = mvs (xs.take j) ++ mvs (xs.drop j) := by rw [← mvs_append, List.take_append_drop]
  have ht : mvs (xs.take j) = (mvs xs).take (j * 3) := by
    rw [hxs]
    exact (List.take_left' (by rw [mvs_length, hl])).symm
  refine ⟨_, _, by rw [hl], by rw [hl]; omega, h2, mvs_length _, h4, fun i hi' => ?_⟩
  rw [mvs_length, hl] at hi'
  have hml := mvs_length xs
  obtain ⟨b, off, f1, f2, f3, f4, f5⟩ := h5 i (by omega)
  refine ⟨b, off, f1, f2, f3, f4, ?_⟩
  rw [f5, ht, List.getElem?_take, if_pos (by omega)]
/-- A move laid for itself reads as a row of one. -/
theorem Blk.one_mv {b : Nat} {m : Mv} {t : TypeId} {w : World} (h : Blk b (.cells (encMv m).toArray t) w) : Sl 3 b (b + 1) w (.slice (some ⟨b, 0, none⟩) 1 1) 1 (encMv m) := by
  refine ⟨_, _, rfl, Nat.le_refl _, by unfold maxLen; omega, rfl, (by intro h; cases h), fun i hi => ⟨b, 0, rfl, Nat.le_refl _, by omega, h.lt, ?_⟩⟩
  rw [h.cell]
  simp
/-- Moves and a truth come back. -/
def MadeR (w : World) (r : Option (List Mv)) (v : Value) (ok : Bool) (w' : World) : Prop :=
  Below w.heap.size w w' ∧ ok = r.isSome ∧ (∃ l, OwnM w.heap.size w'.heap.size 43 w' v l) ∧ ∀ ms, r = some ms → OwnM w.heap.size w'.heap.size 43 w' v ms
theorem MadeR.none {w w' : World} {r : Option (List Mv)} (hr : r = Option.none) (hb : Below w.heap.size w w') : MadeR w r (.slice none 0 0) false w' := by
  subst hr
  exact ⟨hb, rfl, ⟨[], Own.nil _ _ _ _ _⟩, fun ms h => by cases h⟩
theorem named_kinds {a : Ac} (h : namedB a = true) : a.kind = 0 ∨ a.kind = 1 ∨ a.kind = 2 := by
  unfold namedB at h
  split at h
  · rename_i h0; exact .inl (by simpa using h0)
  · split at h
    · rename_i h1; exact .inr (.inl (by simpa using h1))
    · split at h
      · rename_i h2; exact .inr (.inr (by simpa using h2))
      · cases h

set_option maxRecDepth 100000 in
set_option maxHeartbeats 6400000 in
theorem madeBy_any (lo hi : Nat) (a b c d : Value) (D : Dsk) (A : Ac) (w : World) (hE : EnvK w) (hx : DeskAt lo hi w a b c d D) (hh : hi ≤ w.heap.size) (hm : D.size ≤ 1048576) :
    Calls Tryz.prog 81 #[aggD a b c d, aggA A] w (RetVB (MadeR w (madeV D A))) := by
  unfold Dsk.size at hm
  obtain ⟨w0, hw0⟩ : ∃ w0, w0 = (w.alloc (.cells #[a, b, c, d] 58)).alloc (.cells #[.int .i64 A.kind, .int .i64 A.step.which, .bool A.step.back, .int .i64 A.step.at_, .int .i64 A.count] 51) := ⟨_, rfl⟩
  have hb0 : Below w.heap.size w w0 := by rw [hw0]; exact ((Below.refl _ _).alloc (Nat.le_refl _) _).alloc (by simp) _
  have hs0 : w0.heap.size = w.heap.size + 2 := by rw [hw0]; simp
  have K1 : Hid (Blk w.heap.size (.cells #[a, b, c, d] 58) w0) := by
    rw [hw0]
    exact Lib.hid ((Blk.new w _).below ((Below.refl (w.alloc _).heap.size _).alloc (Nat.le_refl _) _) (by simp))
  have K2 : Hid (Blk (w.heap.size + 1) (.cells #[.int .i64 A.kind, .int .i64 A.step.which, .bool A.step.back, .int .i64 A.step.at_, .int .i64 A.count] 51) w0) := by
    have h := Blk.new (w.alloc (.cells #[a, b, c, d] 58)) (.cells #[.int .i64 A.kind, .int .i64 A.step.which, .bool A.step.back, .int .i64 A.step.at_, .int .i64 A.count] 51)
    rw [alloc_size] at h
    rw [hw0]; exact Lib.hid h
  have HX := Lib.hid (hx.below hb0 hh)
  have HB := Lib.hid hb0
  have HE := Lib.hid (hE.below hb0)
  have HW0 := Lib.hid hw0
  have a0 := K2.out.cell 0
  have a1 := K2.out.cell 1
  have a2 := K2.out.cell 2
  have a3 := K2.out.cell 3
  have a4 := K2.out.cell 4
  clear hx hE hb0 hw0
  obtain ⟨nb, hnb⟩ : ∃ nb, nb = namedB A := ⟨_, rfl⟩
  have HNB := Lib.hid hnb
  clear hnb
  go_enter Tryz.func81, Tryz.ntmps81
  go_wp2_with (rw [← HW0.out])
  refine (named_any A w0).mono ?_
  rintro e1 w1 ⟨rfl, hb1⟩
  rw [← HNB.out]
  have HB1 := Lib.hid (HB.out.trans (hb1.mono (by omega)))
  have hs1 := hb1.size
  replace K1 := Lib.hid (K1.out.below hb1 K1.out.lt)
  replace K2 := Lib.hid (K2.out.below hb1 K2.out.lt)
  replace HX := Lib.hid (HX.out.below hb1 (by omega))
  replace HE := Lib.hid (HE.out.below hb1)
  clear hb1 a0 a1 a2 a3 a4 HB
  have a0 := K2.out.cell 0
  have a4 := K2.out.cell 4
  have d2 := K1.out.cell 2
  have d3 := K1.out.cell 3
  cases nb
  · have HR := Lib.hid (show madeV D A = none by simp [madeV, ← HNB.out])
    go_wp2
    go_ret2
    exact ⟨_, _, rfl, MadeR.none HR.out HB1.out⟩
  · rcases named_kinds HNB.out.symm with hk | hk | hk
    · have HR := Lib.hid (show madeV D A = some (D.made ++ [A.step]) by simp [madeV, ← HNB.out, hk])
      rw [hk] at a0
      clear hk
      go_wp2_with fail
      have hbA : Below w1.heap.size w1 w1.drew := Below.drew (Below.refl _ _)
      have hdA : w1.drew.heap.size = w1.heap.size := rfl
      have hbB : Below w1.heap.size w1 (w1.alloc (.cells #[.int .i64 A.step.which, .bool A.step.back, .int .i64 A.step.at_] 43)).drew := Below.drew ((Below.refl _ _).alloc (Nat.le_refl _) _)
      have hdB : (w1.alloc (.cells #[.int .i64 A.step.which, .bool A.step.back, .int .i64 A.step.at_] 43)).drew.heap.size = w1.heap.size + 1 := by show (w1.alloc _).heap.size = _; simp
      have KLB : Hid (Blk w1.heap.size (.cells (encMv A.step).toArray 43) (w1.alloc (.cells #[.int .i64 A.step.which, .bool A.step.back, .int .i64 A.step.at_] 43)).drew) := Lib.hid (Blk.new w1 _)
      have HBA := Lib.hid (HB1.out.trans (hbA.mono HB1.out.size))
      have HBB := Lib.hid (HB1.out.trans (hbB.mono HB1.out.size))
      have HXA := Lib.hid (HX.out.below hbA (by omega))
      have HXB := Lib.hid (HX.out.below hbB (by omega))
      have K1A := Lib.hid (K1.out.below hbA K1.out.lt)
      have K1B := Lib.hid (K1.out.below hbB K1.out.lt)
      have K2A := Lib.hid (K2.out.below hbA K2.out.lt)
      have K2B := Lib.hid (K2.out.below hbB K2.out.lt)
      have hl1 := K1.out.lt
      have hl2 := K2.out.lt
      have hS1 : w1.cell? ⟨w.heap.size, 2, none⟩ = some c ∧ w1.cell? ⟨w.heap.size + 1, 1, none⟩ = some (.int .i64 A.step.which) ∧ w1.cell? ⟨w.heap.size + 1, 2, none⟩ = some (.bool A.step.back) ∧ w1.cell? ⟨w.heap.size + 1, 3, none⟩ = some (.int .i64 A.step.at_) := ⟨K1.out.cell 2, K2.out.cell 1, K2.out.cell 2, K2.out.cell 3⟩
      have hSA : w1.drew.cell? ⟨w.heap.size, 2, none⟩ = some c ∧ w1.drew.cell? ⟨w.heap.size + 1, 1, none⟩ = some (.int .i64 A.step.which) ∧ w1.drew.cell? ⟨w.heap.size + 1, 2, none⟩ = some (.bool A.step.back) ∧ w1.drew.cell? ⟨w.heap.size + 1, 3, none⟩ = some (.int .i64 A.step.at_) := hS1
      have hSB : (w1.alloc (.cells #[.int .i64 A.step.which, .bool A.step.back, .int .i64 A.step.at_] 43)).drew.cell? ⟨w.heap.size, 2, none⟩ = some c ∧ (w1.alloc (.cells #[.int .i64 A.step.which, .bool A.step.back, .int .i64 A.step.at_] 43)).drew.cell? ⟨w.heap.size + 1, 1, none⟩ = some (.int .i64 A.step.which) ∧ (w1.alloc (.cells #[.int .i64 A.step.which, .bool A.step.back, .int .i64 A.step.at_] 43)).drew.cell? ⟨w.heap.size + 1, 2, none⟩ = some (.bool A.step.back) ∧ (w1.alloc (.cells #[.int .i64 A.step.which, .bool A.step.back, .int .i64 A.step.at_] 43)).drew.cell? ⟨w.heap.size + 1, 3, none⟩ = some (.int .i64 A.step.at_) := by
        have k1 := K1.out.below hbB K1.out.lt
        have k2 := K2.out.below hbB K2.out.lt
        exact ⟨k1.cell 2, k2.cell 1, k2.cell 2, k2.cell 3⟩
      clear hbA hbB d2 d3 a0 a4
      go_region_held3 (fun w' => w'.cell? ⟨w.heap.size, 2, none⟩ = some c ∧ w'.cell? ⟨w.heap.size + 1, 1, none⟩ = some (.int .i64 A.step.which) ∧ w'.cell? ⟨w.heap.size + 1, 2, none⟩ = some (.bool A.step.back) ∧ w'.cell? ⟨w.heap.size + 1, 3, none⟩ = some (.int .i64 A.step.at_)) (first | assumption | go_keep) (first
        | (go_at_call 114; refine (cloneM_any lo hi c D.made _ (by first | exact HXA.out.made | exact HXB.out.made) (by omega)).mono ?_; rintro e3 w3 ⟨v3, rfl, hb3, ho3⟩; (have hz3 := hb3.size); (have HB3 : Hid (Below w.heap.size w w3) := Lib.hid (by first | exact HBA.out.trans (hb3.mono (by omega)) | exact HBB.out.trans (hb3.mono (by omega)))); (have KA1 : Hid (Blk w.heap.size (.cells #[a, b, c, d] 58) w3) := Lib.hid (by first | exact K1A.out.below hb3 (by omega) | exact K1B.out.below hb3 (by omega))); (have KA2 : Hid (Blk (w.heap.size + 1) (.cells #[.int .i64 A.kind, .int .i64 A.step.which, .bool A.step.back, .int .i64 A.step.at_, .int .i64 A.count] 51) w3) := Lib.hid (by first | exact K2A.out.below hb3 (by omega) | exact K2B.out.below hb3 (by omega))); (have hS3 : w3.cell? ⟨w.heap.size, 2, none⟩ = some c ∧ w3.cell? ⟨w.heap.size + 1, 1, none⟩ = some (.int .i64 A.step.which) ∧ w3.cell? ⟨w.heap.size + 1, 2, none⟩ = some (.bool A.step.back) ∧ w3.cell? ⟨w.heap.size + 1, 3, none⟩ = some (.int .i64 A.step.at_) := ⟨KA1.out.cell 2, KA2.out.cell 1, KA2.out.cell 2, KA2.out.cell 3⟩); (have HO3 := Lib.hid ho3); (try have KL3 := Lib.hid (KLB.out.below hb3 (by omega))); obtain ⟨xa, xc, rfl, _⟩ := Own.open ho3; clear hb3 ho3)
        | (refine step_app_sl (by rfl) _ _ 32 (by rfl) 43 (.agg #[.int .i64 0, .bool false, .int .i64 0]) 3 24 Tryz.underlying32 info_mv (by rfl) (by decide) (by decide) (by rfl) (by first | exact Own.below HO3.out ((Below.refl _ _).alloc (Nat.le_refl _) _) (Nat.le_refl _) | exact HO3.out) (by rfl) (by first | exact KL3.out.one_mv | exact (Blk.new w3 _).one_mv) (encMv_one A.step) (by omega) (by first | omega | (simp only [alloc_size]; omega)) ?_; intro v5 w5 ho5 hout5; (have hz5 := hout5.size); (have KC1 : Hid (Blk w.heap.size (.cells #[a, b, c, d] 58) w5) := Lib.hid (by first | exact (KA1.out.below ((Below.refl w3.heap.size w3).alloc (Nat.le_refl _) _) KA1.out.lt).outside hout5 (by omega) | exact KA1.out.outside hout5 (by omega))); (have KC2 : Hid (Blk (w.heap.size + 1) (.cells #[.int .i64 A.kind, .int .i64 A.step.which, .bool A.step.back, .int .i64 A.step.at_, .int .i64 A.count] 51) w5) := Lib.hid (by first | exact (KA2.out.below ((Below.refl w3.heap.size w3).alloc (Nat.le_refl _) _) KA2.out.lt).outside hout5 (by omega) | exact KA2.out.outside hout5 (by omega))); (have hS5 : w5.cell? ⟨w.heap.size, 2, none⟩ = some c ∧ w5.cell? ⟨w.heap.size + 1, 1, none⟩ = some (.int .i64 A.step.which) ∧ w5.cell? ⟨w.heap.size + 1, 2, none⟩ = some (.bool A.step.back) ∧ w5.cell? ⟨w.heap.size + 1, 3, none⟩ = some (.int .i64 A.step.at_) := ⟨KC1.out.cell 2, KC2.out.cell 1, KC2.out.cell 2, KC2.out.cell 3⟩); (have HB5 : Hid (Below w.heap.size w w5) := Lib.hid (by first | exact Below.outside (HB3.out.alloc (by omega) _) hout5 (by omega) (by simp; omega) | exact Below.outside HB3.out hout5 (by omega) (by omega))); (have HO5 : Hid (OwnM w.heap.size w5.heap.size 43 w5 v5 (D.made ++ [A.step])) := Lib.hid (by unfold OwnM; rw [List.length_append, mvs_append]; exact Own.wide2 ho5 (by omega) (Nat.le_refl _))); obtain ⟨ya, yc, rfl, _⟩ := Own.open ho5; clear ho5 hout5))
      all_goals (
        go_wp2
        go_ret2
        refine ⟨_, _, rfl, HB5.out, by rw [HR.out]; rfl, ⟨_, HO5.out⟩, fun ms h => ?_⟩
        rw [HR.out] at h
        injection h with h
        subst h
        exact HO5.out)
    · rw [hk] at a0
      obtain ⟨ma, mc, hce, hmc1, hmc2⟩ := HX.out.made.shape
      subst hce
      unfold maxLen at hmc2
      by_cases h1 : 1 ≤ A.count ∧ A.count ≤ D.made.length
      · obtain ⟨k, hk2, hkl⟩ : ∃ k : Nat, (D.made.length : Int) - A.count = k ∧ k ≤ D.made.length := ⟨((D.made.length : Int) - A.count).toNat, by omega, by omega⟩
        have HR := Lib.hid (show madeV D A = some (D.made.take k) by
          simp only [madeV, ← HNB.out, hk, if_pos h1]
          rw [show D.made.length - A.count.toNat = k by omega]
          simp)
        have HF := Lib.hid (HX.out.made.front k hkl)
        have g1 : ¬ A.count < 1 := by omega
        have g2 : ¬ (D.made.length : Int) < A.count := by omega
        have g3 : (0 : Int) ≤ k := by omega
        have g4 : (k : Int) ≤ mc := by omega
        have g5 : k ≤ mc := by omega
        have hlk : (D.made.take k).length = k := by simp; omega
        clear hk h1
        go_wp2_with fail
        refine (cloneM_any _ _ _ (D.made.take k) w1 HF.out (by omega)).mono ?_
        rintro e3 w3 ⟨v3, rfl, hb3, ho3⟩
        have HB3 := Lib.hid (HB1.out.trans (hb3.mono HB1.out.size))
        have HO3 : Hid (OwnM w.heap.size w3.heap.size 43 w3 v3 (D.made.take k)) := Lib.hid (Own.wide2 ho3 HB1.out.size (Nat.le_refl _))
        have HLK := Lib.hid hlk
        obtain ⟨xa, xc, rfl, _⟩ := Own.open ho3
        clear hb3 ho3 hlk
        go_wp2
        rw [HLK.out] at HO3
        go_ret2
        refine ⟨_, _, rfl, HB3.out, by rw [HR.out]; rfl, ⟨_, HO3.out⟩, fun ms h => ?_⟩
        rw [HR.out] at h
        injection h with h
        subst h
        exact HO3.out
      · have HR := Lib.hid (show madeV D A = none by
          simp only [madeV, ← HNB.out, hk, if_neg h1]
          simp)
        have hcs : A.count < 1 ∨ (¬ A.count < 1 ∧ (D.made.length : Int) < A.count) := by omega
        clear hk h1
        rcases hcs with g1 | ⟨g1, g2⟩
        all_goals (
          go_wp2
          go_ret2
          exact ⟨_, _, rfl, MadeR.none HR.out HB1.out⟩)
    · rw [hk] at a0
      have HR := Lib.hid (show madeV D A = (if simpBy D.now = [] then none else some (D.made ++ simpBy D.now)) by simp [madeV, ← HNB.out, hk])
      have hsl := simpBy_len D.now
      clear hk
      go_wp2_with fail
      refine (impl_SimpleBy _ D.now w1 HE.out (SlI.rd HX.out.now (by omega)) (by omega)).mono ?_
      rintro e3 w3 ⟨v3, rfl, hb3, ho3⟩
      have hs3 := hb3.size
      have HB3 := Lib.hid (HB1.out.trans (hb3.mono HB1.out.size))
      replace K1 := Lib.hid (K1.out.below hb3 K1.out.lt)
      replace HX := Lib.hid (HX.out.below hb3 (by omega))
      have HS3 := Lib.hid ho3.sl
      obtain ⟨xa, xc, rfl, _⟩ := Own.open ho3
      clear hb3 ho3 a0 a4 d2 d3
      have d2 := K1.out.cell 2
      go_wp2_with fail
      refine (cloneM_any _ _ _ D.made w3 HX.out.made (by omega)).mono ?_
      rintro e4 w4 ⟨v4, rfl, hb4, ho4⟩
      have hs4 := hb4.size
      have HB4 := Lib.hid (HB3.out.trans (hb4.mono HB3.out.size))
      replace HS3 := Lib.hid (HS3.out.below hb4 (Nat.le_refl _))
      have HO4 := Lib.hid ho4
      obtain ⟨ya, yc, rfl, _⟩ := Own.open ho4
      have hsz3 := HB3.out.size
      clear hb4 ho4 d2
      generalize simpBy D.now = sm at HR HS3 hsl
      have hp : ((0 : Int) < sm.length) = (0 < sm.length) := by simp
      by_cases hsm : sm = []
      · subst hsm
        go_wp2_with (at_builtin; go_loud (refine wpList_app_sl rfl _ _ 32 rfl 43 (.agg #[.int .i64 0, .bool false, .int .i64 0]) 3 24 Tryz.underlying32 info_mv rfl (by decide) (by decide) rfl HO4.out rfl HS3.out (mvs_one _) (by simp; omega) (by omega) ?_))
        intro v5 w5 ho5 _ hout5 _
        have HB5 := Lib.hid (Below.outside HB4.out hout5 hsz3 (by omega))
        have HO5 := Lib.hid (Own.wide2 ho5 hsz3 (Nat.le_refl _))
        obtain ⟨za, zc, rfl, _⟩ := Own.open ho5
        clear ho5 hout5
        go_wp2
        go_ret2
        refine ⟨_, _, rfl, HB5.out, by rw [HR.out]; rfl, ⟨D.made, ?_⟩, fun ms h => ?_⟩
        · have h := HO5.out
          simpa [OwnM, mvs] using h
        · rw [HR.out] at h
          cases h
      · have hpos : 0 < sm.length := List.length_pos_iff.2 hsm
        rw [if_neg hsm] at HR
        clear hsm
        go_wp2_with (at_builtin; go_loud (refine wpList_app_sl rfl _ _ 32 rfl 43 (.agg #[.int .i64 0, .bool false, .int .i64 0]) 3 24 Tryz.underlying32 info_mv rfl (by decide) (by decide) rfl HO4.out rfl HS3.out (mvs_one _) (by omega) (by omega) ?_))
        intro v5 w5 ho5 _ hout5 _
        have HB5 := Lib.hid (Below.outside HB4.out hout5 hsz3 (by omega))
        have HO5 : Hid (OwnM w.heap.size w5.heap.size 43 w5 v5 (D.made ++ sm)) := by
          refine Lib.hid ?_
          unfold OwnM
          rw [List.length_append, mvs_append]
          exact Own.wide2 ho5 hsz3 (Nat.le_refl _)
        obtain ⟨za, zc, rfl, _⟩ := Own.open ho5
        clear ho5 hout5
        go_wp2
        go_ret2
        refine ⟨_, _, rfl, HB5.out, by rw [HR.out]; rfl, ⟨_, HO5.out⟩, fun ms h => ?_⟩
        rw [HR.out] at h
        injection h with h
        subst h
        exact HO5.out
end Go.Proofs.YtagjpecibpejmaaGreatDoor
