/-
  Texts of walks and plain lemmas for this seat; no condition.
-/
import Derived.Test.YtjpndimhegfbnaaGreatDoorMvMark
import Derived.Test.YtjpndimhegfbnaaGreatDoorKat
import Derived.Test.YtjpndimhegfbnaaGreatDoorBlk
namespace Go.Proofs.YtjpndimhegfbnaaGreatDoor
open Go.RowKit

theorem Own.shape {sz lo hi e n : Nat} {w : World} {v : Value} {xs : List Value} (h : Own sz lo hi e w v n xs) : ∃ a cap, v = .slice a n cap := by
  obtain ⟨a, cap, h, _⟩ := Own.open h
  exact ⟨a, cap, h⟩

structure Dsk where
  first : List Int
  goal : List Int
  made : List Mv
  now : List Int
deriving DecidableEq

def Dsk.size (d : Dsk) : Nat := d.first.length + d.goal.length + d.made.length + d.now.length

/-- The four slices of a desk read as its lists, in blocks lo..hi-1. -/
structure DeskAt (lo hi : Nat) (w : World) (a b c d : Value) (D : Dsk) : Prop where
  first : SlI lo hi w a D.first
  goal : SlI lo hi w b D.goal
  made : SlM lo hi w c D.made
  now : SlI lo hi w d D.now
theorem DeskAt.below {lo hi B : Nat} {w w' : World} {a b c d : Value} {D : Dsk} (h : DeskAt lo hi w a b c d D) (hb : Below B w w') (hB : hi ≤ B) : DeskAt lo hi w' a b c d D :=
  ⟨h.first.below hb hB, h.goal.below hb hB, h.made.below hb hB, h.now.below hb hB⟩
theorem DeskAt.outside {lo hi lo' hi' : Nat} {w w' : World} {a b c d : Value} {D : Dsk} (h : DeskAt lo hi w a b c d D) (hb : Outside lo' hi' w w') (hd : hi ≤ lo' ∨ hi' ≤ lo) : DeskAt lo hi w' a b c d D :=
  ⟨h.first.outside hb hd, h.goal.outside hb hd, h.made.outside hb hd, h.now.outside hb hd⟩
theorem DeskAt.wide {lo hi lo' hi' : Nat} {w : World} {a b c d : Value} {D : Dsk} (h : DeskAt lo hi w a b c d D) (h1 : lo' ≤ lo) (h2 : hi ≤ hi') : DeskAt lo' hi' w a b c d D :=
  ⟨h.first.wide h1 h2, h.goal.wide h1 h2, h.made.wide h1 h2, h.now.wide h1 h2⟩

/-- .. each owned, in ranges of its own. -/
structure DeskOwn (lo hi : Nat) (w : World) (a b c d : Value) (D : Dsk) : Prop where
  ranges : ∃ l1 h1 l2 h2 l3 h3 l4 h4, OwnI l1 h1 3 w a D.first ∧ OwnI l2 h2 3 w b D.goal ∧ OwnM l3 h3 66 w c D.made ∧ OwnI l4 h4 3 w d D.now ∧
    (lo ≤ l1 ∧ l1 ≤ h1 ∧ h1 ≤ hi) ∧ (lo ≤ l2 ∧ l2 ≤ h2 ∧ h2 ≤ hi) ∧ (lo ≤ l3 ∧ l3 ≤ h3 ∧ h3 ≤ hi) ∧ (lo ≤ l4 ∧ l4 ≤ h4 ∧ h4 ≤ hi) ∧
    (h1 ≤ l2 ∨ h2 ≤ l1) ∧ (h1 ≤ l3 ∨ h3 ≤ l1) ∧ (h1 ≤ l4 ∨ h4 ≤ l1) ∧ (h2 ≤ l3 ∨ h3 ≤ l2) ∧ (h2 ≤ l4 ∨ h4 ≤ l2) ∧ (h3 ≤ l4 ∨ h4 ≤ l3)
theorem DeskOwn.at {lo hi : Nat} {w : World} {a b c d : Value} {D : Dsk} (h : DeskOwn lo hi w a b c d D) : DeskAt lo hi w a b c d D := by
  obtain ⟨l1, h1, l2, h2, l3, h3, l4, h4, o1, o2, o3, o4, r1, r2, r3, r4, _⟩ := h
  exact ⟨o1.sl.wide r1.1 r1.2.2, o2.sl.wide r2.1 r2.2.2, o3.sl.wide r3.1 r3.2.2, o4.sl.wide r4.1 r4.2.2⟩
theorem DeskOwn.below {lo hi B : Nat} {w w' : World} {a b c d : Value} {D : Dsk} (h : DeskOwn lo hi w a b c d D) (hb : Below B w w') (hB : hi ≤ B) : DeskOwn lo hi w' a b c d D := by
  obtain ⟨l1, h1, l2, h2, l3, h3, l4, h4, o1, o2, o3, o4, r1, r2, r3, r4, rest⟩ := h
  exact ⟨l1, h1, l2, h2, l3, h3, l4, h4, o1.below hb (by omega), o2.below hb (by omega), o3.below hb (by omega), o4.below hb (by omega), r1, r2, r3, r4, rest⟩
theorem DeskOwn.outside {lo hi lo' hi' : Nat} {w w' : World} {a b c d : Value} {D : Dsk} (h : DeskOwn lo hi w a b c d D) (hb : Outside lo' hi' w w') (hd : hi ≤ lo' ∨ hi' ≤ lo) : DeskOwn lo hi w' a b c d D := by
  obtain ⟨l1, h1, l2, h2, l3, h3, l4, h4, o1, o2, o3, o4, r1, r2, r3, r4, rest⟩ := h
  exact ⟨l1, h1, l2, h2, l3, h3, l4, h4, o1.outside hb (by omega), o2.outside hb (by omega), o3.outside hb (by omega), o4.outside hb (by omega), r1, r2, r3, r4, rest⟩
theorem DeskOwn.wide {lo hi lo' hi' : Nat} {w : World} {a b c d : Value} {D : Dsk} (h : DeskOwn lo hi w a b c d D) (h1 : lo' ≤ lo) (h2 : hi ≤ hi') : DeskOwn lo' hi' w a b c d D := by
  obtain ⟨l1, h1, l2, h2, l3, h3, l4, h4, o1, o2, o3, o4, r1, r2, r3, r4, rest⟩ := h
  exact ⟨l1, h1, l2, h2, l3, h3, l4, h4, o1, o2, o3, o4, by omega, by omega, by omega, by omega, rest⟩

/-- What markDesk makes of a desk. -/
def Dsk.mark (d : Dsk) (k : Int) : Dsk :=
  ⟨seqI k d.first.length, seqI (k + d.first.length) d.goal.length, seqM (k + d.first.length + d.goal.length) d.made.length, seqI (k + d.first.length + d.goal.length + 3 * d.made.length) d.now.length⟩
def Dsk.count (d : Dsk) (k : Int) : Int := k + d.first.length + d.goal.length + 3 * d.made.length + d.now.length

theorem eqL_same (xs : List Int) : eqL xs xs = true := by simp [eqL]
theorem eqIntS_same (lo hi lo' hi' : Nat) (v v' : Value) (xs : List Int) (w : World) (hx : SlI lo hi w v xs) (hy : SlI lo' hi' w v' xs) (hm : xs.length ≤ 1048576) :
    Calls Tryz.prog 33 #[v, v'] w fun e w' => e = .returned (.bool true) ∧ Below w.heap.size w w' := by
  refine (eqIntS_any lo hi lo' hi' v v' xs xs w hx hy hm).mono ?_
  rintro e w' ⟨rfl, m, rfl⟩
  rw [eqL_same]
  exact ⟨rfl, below_drewN (Below.refl _ _) _⟩
theorem eqMoveS_same (lo hi lo' hi' : Nat) (v v' : Value) (xs : List Mv) (w : World) (hx : SlM lo hi w v xs) (hy : SlM lo' hi' w v' xs) (hh : hi ≤ w.heap.size) (hh' : hi' ≤ w.heap.size) (hm : xs.length ≤ 1048576) :
    Calls Tryz.prog 40 #[v, v'] w fun e w' => e = .returned (.bool true) ∧ Below w.heap.size w w' := by
  refine (eqMoveS_any lo hi lo' hi' v v' xs xs w hx hy hh hh' hm).mono ?_
  rintro e w' ⟨rfl, h⟩
  rw [show eqMs xs xs = true by simp [eqMs]]
  exact ⟨rfl, h⟩
abbrev aggD (a b c d : Value) : Value := .agg #[a, b, c, d]

set_option maxHeartbeats 1600000 in
theorem eqDesk_same (lo hi lo' hi' : Nat) (a b c d a' b' c' d' : Value) (D : Dsk) (w : World) (hx : DeskAt lo hi w a b c d D) (hy : DeskAt lo' hi' w a' b' c' d' D) (hh : hi ≤ w.heap.size) (hh' : hi' ≤ w.heap.size) (hm : D.size ≤ 1048576) :
    Calls Tryz.prog 52 #[aggD a b c d, aggD a' b' c' d'] w fun e w' => e = .returned (.bool true) ∧ Below w.heap.size w w' := by
  unfold Dsk.size at hm
  have HX := Lib.hid hx
  have HY := Lib.hid hy
  clear hx hy
  obtain ⟨w0, hw0⟩ : ∃ w0, w0 = (w.alloc (.cells #[a, b, c, d] 35)).alloc (.cells #[a', b', c', d'] 35) := ⟨_, rfl⟩
  have HB0 : Hid (Below w.heap.size w w0) := by rw [hw0]; exact Lib.hid (((Below.refl _ _).alloc (Nat.le_refl _) _).alloc (by simp) _)
  have K1 : Hid (Blk w.heap.size (.cells #[a, b, c, d] 35) w0) := by
    rw [hw0]; exact Lib.hid ((Blk.new w _).below ((Below.refl (w.alloc _).heap.size _).alloc (Nat.le_refl _) _) (by simp))
  have K2 : Hid (Blk (w.heap.size + 1) (.cells #[a', b', c', d'] 35) w0) := by
    have := Blk.new (w.alloc (.cells #[a, b, c, d] 35)) (.cells #[a', b', c', d'] 35)
    rw [alloc_size] at this
    rw [hw0]; exact Lib.hid this
  have hsz : w.heap.size + 2 ≤ w0.heap.size := by rw [hw0]; simp
  go_enter Tryz.func52, Tryz.ntmps52
  go_wp2_with fail
  simp only [← hw0]
  clear hw0
  refine (eqIntS_same _ _ _ _ _ _ D.first _ (HX.out.first.below HB0.out hh) (HY.out.first.below HB0.out hh') (by omega)).mono ?_
  rintro e w1 ⟨rfl, hb⟩
  have HB1 := Lib.hid (HB0.out.trans (hb.mono (by omega)))
  replace K1 := Lib.hid (K1.out.below hb (by omega)); replace K2 := Lib.hid (K2.out.below hb (by omega))
  have hs1 := hb.size
  have c0 := K1.out.cell 1
  have c1 := K2.out.cell 1
  clear hb
  go_wp2_with fail
  clear c0 c1
  refine (eqIntS_same _ _ _ _ _ _ D.goal _ (HX.out.goal.below HB1.out hh) (HY.out.goal.below HB1.out hh') (by omega)).mono ?_
  rintro e w2 ⟨rfl, hb⟩
  have HB2 := Lib.hid (HB1.out.trans (hb.mono (by omega)))
  replace K1 := Lib.hid (K1.out.below hb (by omega)); replace K2 := Lib.hid (K2.out.below hb (by omega))
  have hs2 := hb.size
  have c0 := K1.out.cell 2
  have c1 := K2.out.cell 2
  clear hb
  go_wp2_with fail
  clear c0 c1
  refine (eqMoveS_same _ _ _ _ _ _ D.made _ (HX.out.made.below HB2.out hh) (HY.out.made.below HB2.out hh') (by omega) (by omega) (by omega)).mono ?_
  rintro e w3 ⟨rfl, hb⟩
  have HB3 := Lib.hid (HB2.out.trans (hb.mono (by omega)))
  replace K1 := Lib.hid (K1.out.below hb (by omega)); replace K2 := Lib.hid (K2.out.below hb (by omega))
  have c0 := K1.out.cell 3
  have c1 := K2.out.cell 3
  clear hb
  go_wp2_with fail
  refine (eqIntS_same _ _ _ _ _ _ D.now _ (HX.out.now.below HB3.out hh) (HY.out.now.below HB3.out hh') (by omega)).mono ?_
  rintro e w4 ⟨rfl, hb⟩
  have HB4 := Lib.hid (HB3.out.trans (hb.mono HB3.out.size))
  clear hb
  go_wp2
  go_ret
  exact ⟨rfl, HB4.out⟩

set_option maxHeartbeats 1600000 in
theorem markDesk_any (lo hi : Nat) (a b c d : Value) (D : Dsk) (k : Int) (w : World) (hx : DeskOwn lo hi w a b c d D) (hh : hi ≤ w.heap.size) (hm : D.size ≤ 1048576) (hk0 : 0 ≤ k) (hk1 : k ≤ 1000000) :
    Calls Tryz.prog 60 #[aggD a b c d, .int .i64 k] w fun e w' => e = .returned (.int .i64 (D.count k)) ∧ Outside lo hi w w' ∧ DeskOwn lo hi w' a b c d (D.mark k) := by
  unfold Dsk.size at hm
  obtain ⟨l1, h1, l2, h2, l3, h3, l4, h4, o1, o2, o3, o4, r1, r2, r3, r4, x1, x2, x3, x4, x5, x6⟩ := hx
  obtain ⟨w0, hw0⟩ : ∃ w0, w0 = w.alloc (.cells #[a, b, c, d] 35) := ⟨_, rfl⟩
  have hb0 : Below w.heap.size w w0 := by rw [hw0]; exact (Below.refl _ _).alloc (Nat.le_refl _) _
  have K1 : Hid (Blk w.heap.size (.cells #[a, b, c, d] 35) w0) := by rw [hw0]; exact Lib.hid (Blk.new w _)
  have hsz : w.heap.size + 1 ≤ w0.heap.size := by rw [hw0]; simp
  have O1 := Lib.hid (o1.below hb0 (by omega))
  have O2 := Lib.hid (o2.below hb0 (by omega))
  have O3 := Lib.hid (o3.below hb0 (by omega))
  have O4 := Lib.hid (o4.below hb0 (by omega))
  have HO := Lib.hid (Outside.of_below (lo := lo) (hi := hi) hb0 (Nat.le_refl _))
  clear hb0 o1 o2 o3 o4
  go_enter Tryz.func60, Tryz.ntmps60
  go_wp2_with fail
  simp only [← hw0]
  clear hw0
  refine (markIntS_any l1 h1 _ D.first k _ O1.out (by omega) (by omega) (by omega)).mono ?_
  rintro e w1 ⟨rfl, ho, q1⟩
  replace O1 := Lib.hid q1
  replace HO := Lib.hid (HO.out.trans (ho.wide (by omega) (by omega)))
  replace K1 := Lib.hid (K1.out.outside ho (by omega)); replace O2 := Lib.hid (O2.out.outside ho (by omega)); replace O3 := Lib.hid (O3.out.outside ho (by omega)); replace O4 := Lib.hid (O4.out.outside ho (by omega))
  have hs1 := ho.size
  have c0 := K1.out.cell 1
  clear ho q1
  go_wp2_with fail
  clear c0
  refine (markIntS_any l2 h2 _ D.goal _ _ O2.out (by omega) (by omega) (by omega)).mono ?_
  rintro e w2 ⟨rfl, ho, q1⟩
  replace O2 := Lib.hid q1
  replace HO := Lib.hid (HO.out.trans (ho.wide (by omega) (by omega)))
  replace K1 := Lib.hid (K1.out.outside ho (by omega)); replace O1 := Lib.hid (O1.out.outside ho (by omega)); replace O3 := Lib.hid (O3.out.outside ho (by omega)); replace O4 := Lib.hid (O4.out.outside ho (by omega))
  have hs2 := ho.size
  have c0 := K1.out.cell 2
  clear ho q1
  go_wp2_with fail
  clear c0
  refine (markMoveS_any l3 h3 _ D.made _ _ O3.out (by omega) (by omega) (by omega)).mono ?_
  rintro e w3 ⟨rfl, ho, q1⟩
  replace O3 := Lib.hid q1
  replace HO := Lib.hid (HO.out.trans (ho.wide (by omega) (by omega)))
  replace K1 := Lib.hid (K1.out.outside ho (by omega)); replace O1 := Lib.hid (O1.out.outside ho (by omega)); replace O2 := Lib.hid (O2.out.outside ho (by omega)); replace O4 := Lib.hid (O4.out.outside ho (by omega))
  have hs3 := ho.size
  have c0 := K1.out.cell 3
  clear ho q1
  go_wp2_with fail
  clear c0
  refine (markIntS_any l4 h4 _ D.now _ _ O4.out (by omega) (by omega) (by omega)).mono ?_
  rintro e w4 ⟨rfl, ho, q1⟩
  replace O4 := Lib.hid q1
  replace HO := Lib.hid (HO.out.trans (ho.wide (by omega) (by omega)))
  replace O1 := Lib.hid (O1.out.outside ho (by omega)); replace O2 := Lib.hid (O2.out.outside ho (by omega)); replace O3 := Lib.hid (O3.out.outside ho (by omega))
  clear ho q1
  go_wp2
  go_ret
  exact ⟨rfl, HO.out, l1, h1, l2, h2, l3, h3, l4, h4, O1.out, O2.out, O3.out, O4.out, r1, r2, r3, r4, x1, x2, x3, x4, x5, x6⟩

set_option maxHeartbeats 1600000 in
theorem heldDesk_any (lo hi : Nat) (a b c d : Value) (D : Dsk) (k : Int) (w : World) (hx : DeskAt lo hi w a b c d (D.mark k)) (hh : hi ≤ w.heap.size) (hm : D.size ≤ 1048576) (hk0 : 0 ≤ k) (hk1 : k ≤ 1000000) :
    Calls Tryz.prog 61 #[aggD a b c d, .int .i64 k] w fun e w' => e = .returned (.int .i64 (D.count k)) ∧ Below w.heap.size w w' := by
  unfold Dsk.size at hm
  obtain ⟨w0, hw0⟩ : ∃ w0, w0 = w.alloc (.cells #[a, b, c, d] 35) := ⟨_, rfl⟩
  have HB0 : Hid (Below w.heap.size w w0) := by rw [hw0]; exact Lib.hid ((Below.refl _ _).alloc (Nat.le_refl _) _)
  have K1 : Hid (Blk w.heap.size (.cells #[a, b, c, d] 35) w0) := by rw [hw0]; exact Lib.hid (Blk.new w _)
  have HX := Lib.hid (hx.below HB0.out hh)
  clear hx
  have c1 := K1.out.cell 1
  have c2 := K1.out.cell 2
  have c3 := K1.out.cell 3
  go_enter Tryz.func61, Tryz.ntmps61
  go_wp2_with fail
  simp only [← hw0]
  clear hw0
  refine (heldIntS_any lo hi _ D.first.length k _ HX.out.first (by omega) (by omega) (by omega)).mono ?_
  rintro e w1 ⟨rfl, rfl⟩
  go_wp2_with fail
  refine (heldIntS_any lo hi _ D.goal.length _ _ HX.out.goal (by omega) (by omega) (by omega)).mono ?_
  rintro e w1 ⟨rfl, rfl⟩
  go_wp2_with fail
  refine (heldMoveS_any lo hi _ D.made.length _ _ HX.out.made (by omega) (by omega) (by omega)).mono ?_
  rintro e w1 ⟨rfl, rfl⟩
  go_wp2_with fail
  refine (heldIntS_any lo hi _ D.now.length _ _ HX.out.now (by omega) (by omega) (by omega)).mono ?_
  rintro e w1 ⟨rfl, rfl⟩
  go_wp2
  go_ret
  exact ⟨rfl, HB0.out⟩
end Go.Proofs.YtjpndimhegfbnaaGreatDoor
