/-
  Texts of walks and plain lemmas for this seat; no condition.
-/
import Derived.Test.YtjpndimhegfbnaaGreatDoorDKat
import Derived.Test.YtjpndimhegfbnaaGreatDoorDNew2
import Derived.Test.YtjpndimhegfbnaaGreatDoorSame
import Derived.Test.YtjpndimhegfbnaaGreatDoorPRun0
import Derived.Test.YtjpndimhegfbnaaGreatDoorAlive
namespace Go.Proofs.YtjpndimhegfbnaaGreatDoor
open Go.RowKit

/-- Two values come back. -/
def RetVV (P : Value → Value → World → Prop) (e : Ending) (w' : World) : Prop := ∃ a b, e = .returned (.tuple #[a, b]) ∧ P a b w'

set_option maxHeartbeats 1600000 in
theorem DrawDeskNew_any (v : Value) (cs : List Int) (w : World) (h : SlB 0 w.heap.size w v cs) :
    Calls Tryz.prog 20 #[v] w (RetVV fun a b w' => ∃ xs ys : List Int, xs.length ≤ 44 ∧ ys.length ≤ 44 ∧ Below w.heap.size w w' ∧ SlI 0 w'.heap.size w' a xs ∧ SlI 0 w'.heap.size w' b ys) := by
  go_enter Tryz.func20, Tryz.ntmps20
  go_wp2_with fail
  refine (l20Open_any _ cs _ h).mono ?_
  rintro e w1 ⟨_, rfl, g, rfl, hg, hb, hr⟩
  have HB := Lib.hid hb
  have HR := Lib.hid hr
  clear hr hb h
  go_wp2_with fail
  have hg1 := HR.out.lt
  refine (l20Kat_any g 0 4 8 _ HR.out (by omega) (by omega) (by omega) (by omega)).mono ?_
  rintro e w2 ⟨v2, rfl, xs, hown, hl, ho, hr⟩
  replace HB := Lib.hid (Below.outside HB.out ho (by omega) HB.out.size)
  replace HR := Lib.hid hr
  have HX := Lib.hid hown
  have hs1 := ho.size
  clear hown ho hr
  go_wp2_with fail
  refine (l20Kat_any g _ 4 8 _ HR.out (by omega) (by omega) (by omega) (by omega)).mono ?_
  rintro e w3 ⟨v3, rfl, ys, hown, hl2, ho, hr⟩
  replace HB := Lib.hid (Below.outside HB.out ho (by omega) HB.out.size)
  have HY := Lib.hid hown
  have hs2 := ho.size
  replace HX := Lib.hid (HX.out.outside ho (.inr (by omega)))
  clear hown ho hr
  go_wp2
  go_ret2
  exact ⟨_, _, rfl, xs, ys, hl, hl2, HB.out, HX.out.sl.wide (Nat.zero_le _) hs2, HY.out.sl.wide (Nat.zero_le _) (Nat.le_refl _)⟩

theorem deskNew_cases (xs ys : List Int) : (katV xs = true ∧ katV ys = true ∧ deskNew xs ys = ⟨xs, ys, [], xs⟩) ∨ (katV xs = false ∧ deskNew xs ys = ⟨[], [], [], []⟩) ∨ (katV xs = true ∧ katV ys = false ∧ deskNew xs ys = ⟨[], [], [], []⟩) := by
  unfold deskNew
  cases katV xs <;> cases katV ys <;> simp [Dsk.none]
theorem deskNew_made (xs ys : List Int) : (deskNew xs ys).made = [] := by
  rcases deskNew_cases xs ys with ⟨_, _, h⟩ | ⟨_, h⟩ | ⟨_, _, h⟩ <;> rw [h]
theorem deskNew_size {xs ys : List Int} (h : xs.length ≤ 44) (h' : ys.length ≤ 44) : (deskNew xs ys).size ≤ 1048576 := by
  rcases deskNew_cases xs ys with ⟨_, _, e⟩ | ⟨_, e⟩ | ⟨_, _, e⟩ <;> rw [e] <;> simp [Dsk.size] <;> omega

set_option maxRecDepth 100000 in
set_option maxHeartbeats 1600000 in
theorem law_FnDeskNew (v : Value) (cs : List Int) (w : World) (hx : SlB 0 w.heap.size w v cs) :
    Calls Tryz.prog 4 #[v] w fun e w' => e = .returned (.bool true) ∧ Below w.heap.size w w' := by
  have HX := Lib.hid hx
  obtain ⟨⟨a, cap, rfl, hcap, hcm, _⟩, _⟩ := hx
  unfold maxLen at hcm
  by_cases hm : cs.length ≤ 1048576
  · go_enter Tryz.func4, Tryz.ntmps4
    go_wp2_with fail
    refine (DrawDeskNew_any _ cs _ HX.out).mono ?_
    rintro e w1 ⟨v1, v2, rfl, xs, ys, hl1, hl2, hb, h1, h2⟩
    have HB := Lib.hid hb
    replace HX := Lib.hid h1
    have HY := Lib.hid h2
    clear hb h1 h2
    have HZ := Lib.hid (deskNew_made xs ys)
    have HS := Lib.hid (deskNew_size hl1 hl2)
    go_wp2_with fail
    refine (impl_DeskNew _ _ _ _ _ _ xs ys _ HX.out HY.out (Nat.le_refl _) (Nat.le_refl _) (by omega) (by omega)).mono ?_
    rintro e w2 ⟨a1, b1, c1, d1, rfl, hd, hb⟩
    obtain ⟨aa, la, ca, rfl⟩ : ∃ a l c, a1 = .slice a l c := by obtain ⟨a, c, h, _⟩ := Sl.shape hd.at.first; exact ⟨a, _, c, h⟩
    obtain ⟨ab, lb, cb, rfl⟩ : ∃ a l c, b1 = .slice a l c := by obtain ⟨a, c, h, _⟩ := Sl.shape hd.at.goal; exact ⟨a, _, c, h⟩
    obtain ⟨ac, lc, cc, hlc, rfl⟩ : ∃ a l c, l = 0 ∧ c1 = .slice a l c := by
      obtain ⟨a, c, h, _⟩ := Sl.shape hd.at.made
      exact ⟨a, _, c, by rw [HZ.out]; rfl, h⟩
    subst hlc
    obtain ⟨ad, ld, cd, rfl⟩ : ∃ a l c, d1 = .slice a l c := by obtain ⟨a, c, h, _⟩ := Sl.shape hd.at.now; exact ⟨a, _, c, h⟩
    have HD := Lib.hid hd.at
    replace HX := Lib.hid ((HX.out.below hb (Nat.le_refl _)).wide (Nat.le_refl _) hb.size)
    replace HY := Lib.hid ((HY.out.below hb (Nat.le_refl _)).wide (Nat.le_refl _) hb.size)
    replace HB := Lib.hid (HB.out.trans (hb.mono HB.out.size))
    clear hd hb
    obtain ⟨w3, hw3⟩ : ∃ w3, w3 = w2.alloc (.cells #[.slice aa la ca, .slice ab lb cb, .slice ac 0 cc, .slice ad ld cd] 35) := ⟨_, rfl⟩
    have hb : Below w2.heap.size w2 w3 := by rw [hw3]; exact (Below.refl _ _).alloc (Nat.le_refl _) _
    have K : Hid (Blk w2.heap.size (.cells #[.slice aa la ca, .slice ab lb cb, .slice ac 0 cc, .slice ad ld cd] 35) w3) := by rw [hw3]; exact Lib.hid (Blk.new _ _)
    replace HD := Lib.hid ((HD.out.below hb (Nat.le_refl _)).wide (Nat.le_refl _) hb.size)
    replace HX := Lib.hid ((HX.out.below hb (Nat.le_refl _)).wide (Nat.le_refl _) hb.size)
    replace HY := Lib.hid ((HY.out.below hb (Nat.le_refl _)).wide (Nat.le_refl _) hb.size)
    replace HB := Lib.hid (HB.out.trans (hb.mono HB.out.size))
    clear hb
    have HW3 := Lib.hid hw3
    clear hw3
    have k0 := K.out.cell 0
    have k1 := K.out.cell 1
    have k2 := K.out.cell 2
    have k3 := K.out.cell 3
    have hs3 : w2.heap.size + 1 ≤ w3.heap.size := by have := K.out.lt; omega
    go_wp2_with fail
    simp only [← HW3.out]
    have KD : Hid (Blk w2.heap.size (.cells #[.slice aa la ca, .slice ab lb cb, .slice ac 0 cc, .slice ad ld cd] 35) w3.drew) := Lib.hid K.out
    have HXD : Hid (SlI 0 w3.heap.size w3.drew v1 xs) := Lib.hid HX.out
    have HYD : Hid (SlI 0 w3.heap.size w3.drew v2 ys) := Lib.hid HY.out
    have HDD : Hid (DeskAt w1.heap.size w3.heap.size w3.drew (.slice aa la ca) (.slice ab lb cb) (.slice ac 0 cc) (.slice ad ld cd) (deskNew xs ys)) := Lib.hid ⟨HD.out.first, HD.out.goal, HD.out.made, HD.out.now⟩
    go_region_with (first | (go_at_call 23; go_loud ((refine (spec_DeskNew _ _ _ _ _ _ xs ys _ HXD.out HYD.out (Nat.le_refl _) (Nat.le_refl _) (by omega) (by omega)).mono ?_); rintro e w4 ⟨a2, b2, c2', d2, rfl, hd, hb⟩; (have HD2 := Lib.hid hd.at); (have K4 := Lib.hid (KD.out.below hb KD.out.lt)); (have HD4 := Lib.hid ((HDD.out.below hb (Nat.le_refl _)).wide (Nat.le_refl _) hb.size)); (have HB3 := Lib.hid hb); (have e0 := K4.out.cell 0); (have e1 := K4.out.cell 1); (have e2 := K4.out.cell 2); (have e3 := K4.out.cell 3); clear hd hb)) | (go_at_call 22; go_loud ((refine (sameDesk_same _ _ _ _ _ _ _ _ _ _ _ _ _ _ HD4.out HD2.out (Nat.le_refl _) (Nat.le_refl _) HS.out HZ.out).mono ?_); rintro e w5 ⟨rfl, hb⟩; (have HB4 := Lib.hid hb); clear hb)))
    all_goals (
      have hs4 := HB3.out.size
      have hs5 := HB4.out.size
      have hs3d : w3.drew.heap.size = w3.heap.size := rfl
      replace K := Lib.hid (K4.out.below HB4.out K4.out.lt)
      replace HD := Lib.hid ((HD4.out.below HB4.out (Nat.le_refl _)).wide (Nat.le_refl _) hs5)
      replace HX := Lib.hid (((HXD.out.below HB3.out (Nat.le_refl _)).below HB4.out hs4).wide (Nat.le_refl _) (Nat.le_trans hs4 hs5))
      replace HY := Lib.hid (((HYD.out.below HB3.out (Nat.le_refl _)).below HB4.out hs4).wide (Nat.le_refl _) (Nat.le_trans hs4 hs5))
      replace HB := Lib.hid ((HB.out.drew.trans (HB3.out.mono HB.out.size)).trans (HB4.out.mono (Nat.le_trans HB.out.size hs4)))
      clear KD HXD HYD HDD HB3 HB4 HD4 HD2 K4 HW3 k0 k1 k2 k3 e0 e1 e2 e3 hs3d hs4 hs3 hs5
      have k0 := K.out.cell 0
      have k1 := K.out.cell 1
      have k2 := K.out.cell 2
      have k3 := K.out.cell 3
      rcases deskNew_cases xs ys with ⟨q1, q2, q3⟩ | ⟨q1, q3⟩ | ⟨q1, q2, q3⟩
      · have Q1 := Lib.hid q1
        have Q2 := Lib.hid q2
        rw [q3] at HD HS HZ
        clear q1 q2 q3
        go_wp2_with fail
        refine (spec_KatValid _ _ _ xs _ HX.out (by omega)).mono ?_
        rintro e w6 ⟨rfl, rfl⟩
        rw [Q1.out]
        go_wp2_with fail
        refine (spec_KatValid _ _ _ ys _ HY.out (by omega)).mono ?_
        rintro e w6 ⟨rfl, rfl⟩
        rw [Q2.out]
        go_wp2_with fail
        refine (impl_DeskValid_nil _ _ _ _ _ _ _ _ HD.out (Nat.le_refl _) HS.out rfl Q1.out Q2.out).mono ?_
        rintro e w6 ⟨rfl, hb⟩
        rw [eqL_same]
        have hs6 := hb.size
        replace K := Lib.hid (K.out.below hb K.out.lt)
        replace HD := Lib.hid ((HD.out.below hb (Nat.le_refl _)).wide (Nat.le_refl _) hs6)
        replace HX := Lib.hid ((HX.out.below hb (Nat.le_refl _)).wide (Nat.le_refl _) hs6)
        replace HY := Lib.hid ((HY.out.below hb (Nat.le_refl _)).wide (Nat.le_refl _) hs6)
        replace HB := Lib.hid (HB.out.trans (hb.mono HB.out.size))
        clear hb k0 k1 k2 k3 hs6
        have k0 := K.out.cell 0
        have k1 := K.out.cell 1
        have k2 := K.out.cell 2
        have k3 := K.out.cell 3
        go_wp2_with fail
        refine (sameInts_same _ _ _ _ _ _ xs _ HD.out.now HX.out (by omega)).mono ?_
        rintro e w7 ⟨rfl, hb⟩
        have hs6 := hb.size
        replace K := Lib.hid (K.out.below hb K.out.lt)
        replace HD := Lib.hid ((HD.out.below hb (Nat.le_refl _)).wide (Nat.le_refl _) hs6)
        replace HX := Lib.hid ((HX.out.below hb (Nat.le_refl _)).wide (Nat.le_refl _) hs6)
        replace HY := Lib.hid ((HY.out.below hb (Nat.le_refl _)).wide (Nat.le_refl _) hs6)
        replace HB := Lib.hid (HB.out.trans (hb.mono HB.out.size))
        clear hb k0 k1 k2 k3 hs6
        have k0 := K.out.cell 0
        have k1 := K.out.cell 1
        have k2 := K.out.cell 2
        have k3 := K.out.cell 3
        go_wp2_with fail
        refine (impl_DeskDone_nil _ _ _ _ _ _ _ _ HD.out (Nat.le_refl _) HS.out rfl Q1.out Q2.out rfl).mono ?_
        rintro e w8 ⟨rfl, hb⟩
        replace HX := Lib.hid ((HX.out.below hb (Nat.le_refl _)).wide (Nat.le_refl _) hb.size)
        replace HY := Lib.hid ((HY.out.below hb (Nat.le_refl _)).wide (Nat.le_refl _) hb.size)
        replace HB := Lib.hid (HB.out.trans (hb.mono HB.out.size))
        clear hb k0 k1 k2 k3
        have HQ := Lib.hid (sameInts_any _ _ _ _ _ _ xs ys _ HX.out HY.out (by omega))
        cases hq : eqL xs ys
        · rw [hq] at HQ
          go_wp2_with fail
          refine HQ.out.mono ?_
          rintro e w9 ⟨rfl, m, rfl⟩
          go_wp2
          go_ret
          exact ⟨rfl, below_drewN HB.out _⟩
        · rw [hq] at HQ
          go_wp2_with fail
          refine HQ.out.mono ?_
          rintro e w9 ⟨rfl, m, rfl⟩
          go_wp2
          go_ret
          exact ⟨rfl, below_drewN HB.out _⟩
      · have Q1 := Lib.hid q1
        rw [q3] at HD HS HZ
        clear q1 q3
        go_wp2_with fail
        refine (spec_KatValid _ _ _ xs _ HX.out (by omega)).mono ?_
        rintro e w6 ⟨rfl, rfl⟩
        rw [Q1.out]
        go_wp2_with fail
        refine (noDesk_zero _ _ _ _ _ _ _ HD.out (Nat.le_refl _)).mono ?_
        rintro e w6 ⟨rfl, hb⟩
        replace HB := Lib.hid (HB.out.trans (hb.mono HB.out.size))
        clear hb
        go_wp2_with fail
        refine (alive_any _).mono ?_
        rintro e w7 ⟨rfl, rfl⟩
        go_wp2
        go_ret
        exact ⟨rfl, HB.out⟩
      · have Q1 := Lib.hid q1
        have Q2 := Lib.hid q2
        rw [q3] at HD HS HZ
        clear q1 q2 q3
        go_wp2_with fail
        refine (spec_KatValid _ _ _ xs _ HX.out (by omega)).mono ?_
        rintro e w6 ⟨rfl, rfl⟩
        rw [Q1.out]
        go_wp2_with fail
        refine (spec_KatValid _ _ _ ys _ HY.out (by omega)).mono ?_
        rintro e w6 ⟨rfl, rfl⟩
        rw [Q2.out]
        go_wp2_with fail
        refine (noDesk_zero _ _ _ _ _ _ _ HD.out (Nat.le_refl _)).mono ?_
        rintro e w6 ⟨rfl, hb⟩
        replace HB := Lib.hid (HB.out.trans (hb.mono HB.out.size))
        clear hb
        go_wp2_with fail
        refine (alive_any _).mono ?_
        rintro e w7 ⟨rfl, rfl⟩
        go_wp2
        go_ret
        exact ⟨rfl, HB.out⟩)
  · go_enter Tryz.func4, Tryz.ntmps4
    go_wp2
    go_ret
    exact ⟨rfl, Below.refl _ _⟩
end Go.Proofs.YtjpndimhegfbnaaGreatDoor
