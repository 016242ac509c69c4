/-
  Texts of walks and plain lemmas for this seat; no condition.
-/
import Derived.Test.YtjpndimhegfbnaaGreatDoorISide
namespace Go.Proofs.YtjpndimhegfbnaaGreatDoor
open Go.RowKit

/-- The sides of a rule, each in new memory. -/
def RuleOwn (lo hi : Nat) (w : World) (a b : Value) (L R : List Int) : Prop := ∃ m, lo ≤ m ∧ m ≤ hi ∧ OwnI lo m 3 w a L ∧ OwnI m hi 3 w b R
/-- A rule comes back. -/
def RetR (P : Value → Value → World → Prop) (e : Ending) (w' : World) : Prop := ∃ a b, e = .returned (.agg #[a, b]) ∧ P a b w'
theorem Blk.set2 {g : Nat} {e : TypeId} {w : World} {x0 x1 : Value} (h : Blk g (.cells #[x0, x1] e (0, 0)) w) (a b : Value) :
    Blk g (.cells #[a, b] e (0, 0)) ((w.setCell ⟨g, 0, none⟩ a).setCell ⟨g, 1, none⟩ b) := by
  have h' : w.heap[g]? = _ := h
  show ((w.setCell ⟨g, 0, none⟩ a).setCell ⟨g, 1, none⟩ b).heap[g]? = _
  simp [World.setCell, Array.getElem?_modify, h']
theorem Outside.set2 (g : Nat) (w : World) (a b : Value) : Outside g (g + 1) w ((w.setCell ⟨g, 0, none⟩ a).setCell ⟨g, 1, none⟩ b) :=
  ((Outside.refl _ _ _).setCell (p := ⟨g, 0, none⟩) (Nat.le_refl _) (Nat.lt_succ_self _) _).setCell (p := ⟨g, 1, none⟩) (Nat.le_refl _) (Nat.lt_succ_self _) _

set_option maxRecDepth 100000 in
set_option maxHeartbeats 1600000 in
theorem ruleOf_any (n : Nat) (hn : n < 21) (w : World) (hE : EnvK w) :
    Calls Tryz.prog 72 #[.int .i64 n] w (RetR fun a b w' => Below w.heap.size w w' ∧ RuleOwn w.heap.size w'.heap.size w' a b (ruleS n true) (ruleS n false)) := by
  obtain ⟨w0, hw0⟩ : ∃ w0, w0 = w.alloc (.cells #[.slice none 0 0, .slice none 0 0] 24) := ⟨_, rfl⟩
  have HB : Hid (Below w.heap.size w w0) := by rw [hw0]; exact Lib.hid ((Below.refl _ _).alloc (Nat.le_refl _) _)
  have K : Hid (Blk w.heap.size (.cells #[.slice none 0 0, .slice none 0 0] 24) w0) := by rw [hw0]; exact Lib.hid (Blk.new w _)
  have hsz : w0.heap.size = w.heap.size + 1 := by rw [hw0]; simp
  have hle : w.heap.size ≤ w0.heap.size := by omega
  obtain ⟨eL, pL, vL, sL, lL⟩ := side_open hn true
  obtain ⟨eR, pR, vR, sR, lR⟩ := side_open hn false
  have PL := Lib.hid (And.intro pL (And.intro vL sL))
  have PR := Lib.hid (And.intro pR (And.intro vR sR))
  have HE := Lib.hid (hE.below HB.out)
  obtain ⟨rb, off, cap, g0, g1⟩ := HE.out.rules
  have gn := g1 n hn
  have hlen := ruleT_len n hn
  have hnc : (n : Int) < 21 := by omega
  have HW0 := Lib.hid hw0
  rw [hw0] at g0 gn
  clear hE pL vL sL pR vR sR g1 hw0
  go_enter Tryz.func72, Tryz.ntmps72
  go_wp2_with fail
  simp only [← HW0.out]
  refine (CutM_any (ruleT.getD n []) [61] _ _ rfl rfl w0 HE.out.most (by omega)).mono ?_
  rintro e w1 ⟨rfl, hb⟩
  replace HE := Lib.hid (HE.out.below hb)
  replace K := Lib.hid (K.out.below hb K.out.lt)
  replace HB := Lib.hid (HB.out.trans (hb.mono hle))
  have hs1 := hb.size
  rw [show (Lib.cut (ruleT.getD n []) [61]).1 = sideT n true from rfl, show (Lib.cut (ruleT.getD n []) [61]).2.1 = sideT n false from rfl]
  clear hb g0 gn
  go_wp2_with fail
  refine (readSide_any (sideT n true) eL _ HE.out.map (by omega) PL.out.1 PL.out.2.1).mono ?_
  rintro e w2 ⟨v2, rfl, hb, hown⟩
  obtain ⟨a2, cap2, rfl, _⟩ := Own.open hown
  have HL := Lib.hid hown
  replace HE := Lib.hid (HE.out.below hb)
  replace K := Lib.hid (K.out.below hb K.out.lt)
  have hs2 := hb.size
  replace HB := Lib.hid (HB.out.trans (hb.mono (by omega)))
  clear hb hown
  go_wp2_with fail
  refine (readSide_any (sideT n false) eR _ HE.out.map (by omega) PR.out.1 PR.out.2.1).mono ?_
  rintro e w3 ⟨v3, rfl, hb, hown⟩
  obtain ⟨a3, cap3, rfl, _⟩ := Own.open hown
  have HRR := Lib.hid hown
  replace HL := Lib.hid (HL.out.below hb (Nat.le_refl _))
  replace K := Lib.hid (K.out.below hb K.out.lt)
  have hs3 := hb.size
  replace HB := Lib.hid (HB.out.trans (hb.mono (by omega)))
  clear hb hown
  have c0 := K.out.cell 0
  have c1 := K.out.cell 1
  have f0 := K.out.free 0
  have f1 := K.out.free 1
  obtain ⟨wz, hwz⟩ : ∃ wz, wz = ((w3.setCell ⟨w.heap.size, 0, none⟩ (.slice a2 (eL.map toVar).length cap2)).setCell ⟨w.heap.size, 1, none⟩ (.slice a3 (eR.map toVar).length cap3)) := ⟨_, rfl⟩
  have KZ := K.out.set2 (.slice a2 (eL.map toVar).length cap2) (.slice a3 (eR.map toVar).length cap3)
  have HO := Lib.hid (Outside.set2 w.heap.size w3 (.slice a2 (eL.map toVar).length cap2) (.slice a3 (eR.map toVar).length cap3))
  rw [← hwz] at KZ HO
  have HZ := Lib.hid (Below.outside HB.out HO.out (Nat.le_refl _) HB.out.size)
  have q0 := KZ.cell 0
  have q1 := KZ.cell 1
  have hsz4 := HO.out.size
  clear KZ
  go_wp2
  try simp only [List.length_map] at hwz q0 q1 ⊢
  simp only [← hwz]
  clear hwz
  refine bodyPost_ret (v := .agg #[.slice a2 eL.length cap2, .slice a3 eR.length cap3]) (by simp [results, Tryz.results72, go_sem, q0, q1]) rfl ⟨_, _, rfl, HZ.out, ?_⟩
  rw [PL.out.2.2, PR.out.2.2]
  have h1 := HL.out
  have h2 := HRR.out
  simp only [List.length_map] at h1 h2
  exact ⟨w2.heap.size, by omega, by omega, (h1.outside HO.out (.inr (by omega))).lower (by omega) (Nat.le_refl _), (h2.outside HO.out (.inr (by omega))).lower (Nat.le_refl _) hsz4⟩

theorem isRule_any (n : Int) (w : World) : Calls Tryz.prog 71 #[.int .i64 n] w fun e w' => e = .returned (.bool (inB n 0 20)) ∧ w = w' := by
  go_enter Tryz.func71, Tryz.ntmps71
  by_cases h1 : 0 ≤ n
  · by_cases h2 : n < 21
    · go_wp2
      go_ret
      exact ⟨ret_bool (by simp [inB, h1]; omega), rfl⟩
    · go_wp2
      go_ret
      exact ⟨ret_bool (by simp [inB]; omega), rfl⟩
  · go_wp2
    go_ret
    exact ⟨ret_bool (by simp [inB]; omega), rfl⟩

/-- A rule and a truth come back. -/
def RetRB (P : Value → Value → Bool → World → Prop) (e : Ending) (w' : World) : Prop := ∃ a b c, e = .returned (.tuple #[.agg #[a, b], .bool c]) ∧ P a b c w'
/-- The rule with a number, if there is one. -/
def isR (n : Int) : Bool := inB n 0 20
def ruleN (n : Int) (l : Bool) : List Int := if isR n then ruleS n.toNat l else []
theorem RuleOwn.nil (lo hi : Nat) (h : lo ≤ hi) (w : World) : RuleOwn lo hi w (.slice none 0 0) (.slice none 0 0) [] [] := ⟨lo, Nat.le_refl _, h, Own.nil _ _ _ _ _, Own.nil _ _ _ _ _⟩
theorem RuleOwn.below {lo hi B : Nat} {w w' : World} {a b : Value} {L R : List Int} (h : RuleOwn lo hi w a b L R) (hb : Below B w w') (hB : hi ≤ B) : RuleOwn lo hi w' a b L R := by
  obtain ⟨m, h1, h2, h3, h4⟩ := h
  exact ⟨m, h1, h2, h3.below hb (by omega), h4.below hb hB⟩
theorem RuleOwn.outside {lo hi lo' hi' : Nat} {w w' : World} {a b : Value} {L R : List Int} (h : RuleOwn lo hi w a b L R) (hb : Outside lo' hi' w w') (hd : hi ≤ lo' ∨ hi' ≤ lo) : RuleOwn lo hi w' a b L R := by
  obtain ⟨m, h1, h2, h3, h4⟩ := h
  exact ⟨m, h1, h2, h3.outside hb (by omega), h4.outside hb (by omega)⟩
theorem RuleOwn.wide {lo hi lo' hi' : Nat} {w : World} {a b : Value} {L R : List Int} (h : RuleOwn lo hi w a b L R) (h1 : lo' ≤ lo) (h2 : hi ≤ hi') : RuleOwn lo' hi' w a b L R := by
  obtain ⟨m, k1, k2, k3, k4⟩ := h
  exact ⟨m, by omega, by omega, k3.lower h1 (Nat.le_refl _), k4.lower (Nat.le_refl _) h2⟩

set_option maxRecDepth 100000 in
set_option maxHeartbeats 1600000 in
theorem impl_RuleOf (n : Int) (w : World) (hE : EnvK w) :
    Calls Tryz.prog 16 #[.int .i64 n] w (RetRB fun a b c w' => c = isR n ∧ Below w.heap.size w w' ∧ RuleOwn w.heap.size w'.heap.size w' a b (ruleN n true) (ruleN n false)) := by
  obtain ⟨w0, hw0⟩ : ∃ w0, w0 = w.alloc (.cells #[.slice none 0 0, .slice none 0 0] 24) := ⟨_, rfl⟩
  have HB : Hid (Below w.heap.size w w0) := by rw [hw0]; exact Lib.hid ((Below.refl _ _).alloc (Nat.le_refl _) _)
  have K : Hid (Blk w.heap.size (.cells #[.slice none 0 0, .slice none 0 0] 24) w0) := by rw [hw0]; exact Lib.hid (Blk.new w _)
  have hsz : w0.heap.size = w.heap.size + 1 := by rw [hw0]; simp
  have hle : w.heap.size ≤ w0.heap.size := by omega
  have HE := Lib.hid (hE.below HB.out)
  have HW0 := Lib.hid hw0
  have HQ := Lib.hid (show isR n = inB n 0 20 from rfl)
  clear hE hw0
  cases hq : inB n 0 20
  · have c0 := K.out.cell 0
    have c1 := K.out.cell 1
    have f0 := K.out.free 0
    have f1 := K.out.free 1
    obtain ⟨wz, hwz⟩ : ∃ wz, wz = ((w0.setCell ⟨w.heap.size, 0, none⟩ (.slice none 0 0)).setCell ⟨w.heap.size, 1, none⟩ (.slice none 0 0)) := ⟨_, rfl⟩
    have KZ := K.out.set2 (.slice none 0 0) (.slice none 0 0)
    have HO := Lib.hid (Outside.set2 w.heap.size w0 (.slice none 0 0) (.slice none 0 0))
    rw [← hwz] at KZ HO
    have HZ := Lib.hid (Below.outside HB.out HO.out (Nat.le_refl _) HB.out.size)
    have q0 := KZ.cell 0
    have q1 := KZ.cell 1
    have hzs := HZ.out.size
    clear KZ
    have HWZ := Lib.hid hwz
    clear hwz
    go_enter Tryz.func16, Tryz.ntmps16
    go_wp2_with fail
    simp only [← HW0.out]
    refine (isRule_any n _).mono ?_
    rintro e w1 ⟨rfl, rfl⟩
    rw [hq]
    go_wp2
    simp only [← HWZ.out]
    refine bodyPost_ret (v := .tuple #[.agg #[.slice none 0 0, .slice none 0 0], .bool false]) (by simp [results, Tryz.results16, go_sem, q0, q1]) rfl ⟨_, _, _, rfl, by rw [HQ.out]; exact hq.symm, HZ.out, ?_⟩
    have h1 : ruleN n true = [] := by simp [ruleN, HQ.out, hq]
    have h2 : ruleN n false = [] := by simp [ruleN, HQ.out, hq]
    rw [h1, h2]
    exact RuleOwn.nil _ _ hzs _
  · obtain ⟨m, rfl, hm⟩ : ∃ m : Nat, n = m ∧ m < 21 := ⟨n.toNat, by simp [inB] at hq; omega, by simp [inB] at hq; omega⟩
    go_enter Tryz.func16, Tryz.ntmps16
    go_wp2_with fail
    simp only [← HW0.out]
    refine (isRule_any _ _).mono ?_
    rintro e w1 ⟨rfl, rfl⟩
    rw [hq]
    go_wp2_with fail
    refine (ruleOf_any m hm _ HE.out).mono ?_
    rintro e w2 ⟨a, b, rfl, hb, hr⟩
    have h1 : ruleN m true = ruleS m true := by simp [ruleN, HQ.out, hq]
    have h2 : ruleN m false = ruleS m false := by simp [ruleN, HQ.out, hq]
    have HR := Lib.hid hr
    rw [← h1, ← h2] at HR
    obtain ⟨aa, la, ca, rfl⟩ : ∃ x l c, a = .slice x l c := by obtain ⟨_, _, _, h3, _⟩ := hr; obtain ⟨x, c, h, _⟩ := Own.open h3; exact ⟨x, _, c, h⟩
    obtain ⟨ab, lb, cb, rfl⟩ : ∃ x l c, b = .slice x l c := by obtain ⟨_, _, _, _, h3⟩ := hr; obtain ⟨x, c, h, _⟩ := Own.open h3; exact ⟨x, _, c, h⟩
    replace K := Lib.hid (K.out.below hb K.out.lt)
    have hs2 := hb.size
    replace HB := Lib.hid (HB.out.trans (hb.mono hle))
    clear hb hr h1 h2
    have c0 := K.out.cell 0
    have c1 := K.out.cell 1
    have f0 := K.out.free 0
    have f1 := K.out.free 1
    obtain ⟨wz, hwz⟩ : ∃ wz, wz = ((w2.setCell ⟨w.heap.size, 0, none⟩ (.slice aa la ca)).setCell ⟨w.heap.size, 1, none⟩ (.slice ab lb cb)) := ⟨_, rfl⟩
    have KZ := K.out.set2 (.slice aa la ca) (.slice ab lb cb)
    have HO := Lib.hid (Outside.set2 w.heap.size w2 (.slice aa la ca) (.slice ab lb cb))
    rw [← hwz] at KZ HO
    have HZ := Lib.hid (Below.outside HB.out HO.out (Nat.le_refl _) HB.out.size)
    have q0 := KZ.cell 0
    have q1 := KZ.cell 1
    have hzs := HO.out.size
    clear KZ
    go_wp2
    simp only [← hwz]
    clear hwz
    refine bodyPost_ret (v := .tuple #[.agg #[.slice aa la ca, .slice ab lb cb], .bool true]) (by simp [results, Tryz.results16, go_sem, q0, q1]) rfl ⟨_, _, _, rfl, by rw [HQ.out]; exact hq.symm, HZ.out, ?_⟩
    exact (HR.out.outside HO.out (.inr (by omega))).wide (by omega) hzs
end Go.Proofs.YtjpndimhegfbnaaGreatDoor
