/-
  Texts of walks and plain lemmas for this seat; no condition.
-/
import Derived.Test.YtjpndimhegfbnaaGreatDoorT3
import Derived.Test.YtjpndimhegfbnaaGreatDoorIRule
namespace Go.Proofs.YtjpndimhegfbnaaGreatDoor
open Go.RowKit

theorem eqL_same' (xs : List Int) : eqL xs xs = true := by simp [eqL]
theorem eqIntS_same' (lo hi lo' hi' : Nat) (v v' : Value) (xs : List Int) (w : World) (hx : SlI lo hi w v xs) (hy : SlI lo' hi' w v' xs) (hm : xs.length ≤ 1048576) :
    Calls Tryz.prog 33 #[v, v'] w fun e w' => e = .returned (.bool true) ∧ Below w.heap.size w w' := by
  refine (eqIntS_any lo hi lo' hi' v v' xs xs w hx hy hm).mono ?_
  rintro e w' ⟨rfl, m, rfl⟩
  rw [eqL_same']
  exact ⟨rfl, below_drewN (Below.refl _ _) _⟩
abbrev aggR (a b : Value) : Value := .agg #[a, b]
/-- The sides read. -/
def RuleAt (lo hi : Nat) (w : World) (a b : Value) (L R : List Int) : Prop := SlI lo hi w a L ∧ SlI lo hi w b R
theorem RuleOwn.at {lo hi : Nat} {w : World} {a b : Value} {L R : List Int} (h : RuleOwn lo hi w a b L R) : RuleAt lo hi w a b L R := by
  obtain ⟨m, h1, h2, h3, h4⟩ := h
  exact ⟨h3.sl.wide (Nat.le_refl _) h2, h4.sl.wide h1 (Nat.le_refl _)⟩
theorem RuleAt.below {lo hi B : Nat} {w w' : World} {a b : Value} {L R : List Int} (h : RuleAt lo hi w a b L R) (hb : Below B w w') (hB : hi ≤ B) : RuleAt lo hi w' a b L R := ⟨h.1.below hb hB, h.2.below hb hB⟩
theorem RuleAt.outside {lo hi lo' hi' : Nat} {w w' : World} {a b : Value} {L R : List Int} (h : RuleAt lo hi w a b L R) (hb : Outside lo' hi' w w') (hd : hi ≤ lo' ∨ hi' ≤ lo) : RuleAt lo hi w' a b L R := ⟨h.1.outside hb hd, h.2.outside hb hd⟩
theorem RuleAt.wide {lo hi lo' hi' : Nat} {w : World} {a b : Value} {L R : List Int} (h : RuleAt lo hi w a b L R) (h1 : lo' ≤ lo) (h2 : hi ≤ hi') : RuleAt lo' hi' w a b L R := ⟨h.1.wide h1 h2, h.2.wide h1 h2⟩

set_option maxHeartbeats 1600000 in
theorem eqRule_same (lo hi lo' hi' : Nat) (a b a' b' : Value) (L R : List Int) (w : World) (hx : RuleAt lo hi w a b L R) (hy : RuleAt lo' hi' w a' b' L R) (hh : hi ≤ w.heap.size) (hh' : hi' ≤ w.heap.size) (hm : L.length + R.length ≤ 1048576) :
    Calls Tryz.prog 17 #[aggR a b, aggR a' b'] w fun e w' => e = .returned (.bool true) ∧ Below w.heap.size w w' := by
  have HX := Lib.hid hx
  have HY := Lib.hid hy
  clear hx hy
  obtain ⟨w0, hw0⟩ : ∃ w0, w0 = (w.alloc (.cells #[a, b] 24)).alloc (.cells #[a', b'] 24) := ⟨_, rfl⟩
  have HB0 : Hid (Below w.heap.size w w0) := by rw [hw0]; exact Lib.hid (((Below.refl _ _).alloc (Nat.le_refl _) _).alloc (by simp) _)
  have K1 : Hid (Blk w.heap.size (.cells #[a, b] 24) w0) := by
    rw [hw0]; exact Lib.hid ((Blk.new w _).below ((Below.refl (w.alloc _).heap.size _).alloc (Nat.le_refl _) _) (by simp))
  have K2 : Hid (Blk (w.heap.size + 1) (.cells #[a', b'] 24) w0) := by
    have := Blk.new (w.alloc (.cells #[a, b] 24)) (.cells #[a', b'] 24)
    rw [alloc_size] at this
    rw [hw0]; exact Lib.hid this
  have hsz : w.heap.size + 2 ≤ w0.heap.size := by rw [hw0]; simp
  go_enter Tryz.func17, Tryz.ntmps17
  go_wp2_with fail
  simp only [← hw0]
  clear hw0
  refine (eqIntS_same' _ _ _ _ _ _ L _ (HX.out.1.below HB0.out hh) (HY.out.1.below HB0.out hh') (by omega)).mono ?_
  rintro e w1 ⟨rfl, hb⟩
  have HB1 := Lib.hid (HB0.out.trans (hb.mono (by omega)))
  replace K1 := Lib.hid (K1.out.below hb (by omega)); replace K2 := Lib.hid (K2.out.below hb (by omega))
  have c0 := K1.out.cell 1
  have c1 := K2.out.cell 1
  clear hb
  go_wp2_with fail
  refine (eqIntS_same' _ _ _ _ _ _ R _ (HX.out.2.below HB1.out hh) (HY.out.2.below HB1.out hh') (by omega)).mono ?_
  rintro e w2 ⟨rfl, hb⟩
  have HB2 := Lib.hid (HB1.out.trans (hb.mono HB1.out.size))
  clear hb
  go_wp2
  go_ret
  exact ⟨rfl, HB2.out⟩

set_option maxHeartbeats 1600000 in
theorem markRule_any (lo hi : Nat) (a b : Value) (L R : List Int) (k : Int) (w : World) (hx : RuleOwn lo hi w a b L R) (hh : hi ≤ w.heap.size) (hm : L.length + R.length ≤ 1048576) (hk0 : 0 ≤ k) (hk1 : k ≤ 1000000) :
    Calls Tryz.prog 18 #[aggR a b, .int .i64 k] w fun e w' => e = .returned (.int .i64 (k + L.length + R.length)) ∧ Outside lo hi w w' ∧ RuleOwn lo hi w' a b (seqI k L.length) (seqI (k + L.length) R.length) := by
  obtain ⟨m, h1, h2, o1, o2⟩ := hx
  obtain ⟨w0, hw0⟩ : ∃ w0, w0 = w.alloc (.cells #[a, b] 24) := ⟨_, rfl⟩
  have hb0 : Below w.heap.size w w0 := by rw [hw0]; exact (Below.refl _ _).alloc (Nat.le_refl _) _
  have K1 : Hid (Blk w.heap.size (.cells #[a, b] 24) w0) := by rw [hw0]; exact Lib.hid (Blk.new w _)
  have O1 := Lib.hid (o1.below hb0 (by omega))
  have O2 := Lib.hid (o2.below hb0 (by omega))
  have HO := Lib.hid (Outside.of_below (lo := lo) (hi := hi) hb0 (Nat.le_refl _))
  clear hb0 o1 o2
  go_enter Tryz.func18, Tryz.ntmps18
  go_wp2_with fail
  simp only [← hw0]
  clear hw0
  refine (markIntS_any lo m _ L k _ O1.out (by omega) (by omega) (by omega)).mono ?_
  rintro e w1 ⟨rfl, ho, q1⟩
  replace O1 := Lib.hid q1
  replace HO := Lib.hid (HO.out.trans (ho.wide (by omega) (by omega)))
  replace K1 := Lib.hid (K1.out.outside ho (by omega)); replace O2 := Lib.hid (O2.out.outside ho (by omega))
  have c0 := K1.out.cell 1
  clear ho q1
  go_wp2_with fail
  refine (markIntS_any m hi _ R _ _ O2.out (by omega) (by omega) (by omega)).mono ?_
  rintro e w2 ⟨rfl, ho, q1⟩
  replace O2 := Lib.hid q1
  replace HO := Lib.hid (HO.out.trans (ho.wide (by omega) (by omega)))
  replace O1 := Lib.hid (O1.out.outside ho (by omega))
  clear ho q1
  go_wp2
  go_ret
  exact ⟨rfl, HO.out, m, h1, h2, O1.out, O2.out⟩

set_option maxHeartbeats 1600000 in
theorem heldRule_any (lo hi : Nat) (a b : Value) (p q : Nat) (k : Int) (w : World) (hx : RuleAt lo hi w a b (seqI k p) (seqI (k + p) q)) (hh : hi ≤ w.heap.size) (hm : p + q ≤ 1048576) (hk0 : 0 ≤ k) (hk1 : k ≤ 1000000) :
    Calls Tryz.prog 19 #[aggR a b, .int .i64 k] w fun e w' => e = .returned (.int .i64 (k + p + q)) ∧ Below w.heap.size w w' := by
  obtain ⟨w0, hw0⟩ : ∃ w0, w0 = w.alloc (.cells #[a, b] 24) := ⟨_, rfl⟩
  have HB0 : Hid (Below w.heap.size w w0) := by rw [hw0]; exact Lib.hid ((Below.refl _ _).alloc (Nat.le_refl _) _)
  have K1 : Hid (Blk w.heap.size (.cells #[a, b] 24) w0) := by rw [hw0]; exact Lib.hid (Blk.new w _)
  have HX := Lib.hid (hx.below HB0.out hh)
  clear hx
  have c1 := K1.out.cell 1
  go_enter Tryz.func19, Tryz.ntmps19
  go_wp2_with fail
  simp only [← hw0]
  clear hw0
  refine (heldIntS_any lo hi _ p k _ HX.out.1 (by omega) (by omega) (by omega)).mono ?_
  rintro e w1 ⟨rfl, rfl⟩
  go_wp2_with fail
  refine (heldIntS_any lo hi _ q _ _ HX.out.2 (by omega) (by omega) (by omega)).mono ?_
  rintro e w1 ⟨rfl, rfl⟩
  go_wp2
  go_ret
  exact ⟨rfl, HB0.out⟩
end Go.Proofs.YtjpndimhegfbnaaGreatDoor
