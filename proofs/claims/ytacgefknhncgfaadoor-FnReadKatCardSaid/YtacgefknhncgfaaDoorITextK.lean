/-
  Texts of walks and plain lemmas for this seat; no condition.
-/
import Derived.Test.YtacgefknhncgfaaDoorSTextA
import Derived.Test.YtacgefknhncgfaaDoorIHas
import Derived.Test.YtacgefknhncgfaaDoorGA
import Derived.Test.YtacgefknhncgfaaDoorGD
import Derived.Deep.RegionHeldLaw
import Derived.Deep.RegionHeld3
import Derived.Deep.DeepCutAuto
import Derived.Deep.DrawnRows
namespace Go.Proofs.YtacgefknhncgfaaDoor
open Go.RowKit
set_option linter.unusedVariables false
set_option linter.unusedSimpArgs false

/-- A text, in brackets if the expression ends with one of some steps. -/
def txtB (t : KT) (S : List Int) : List UInt8 := if t.root ∈ S then [40] ++ txtK t 1 ++ [41] else txtK t 1
theorem txtB_2 {t : KT} (h : t.ok 0 = true) : txtK t 2 = txtB t [20] := by
  cases t with
  | leaf n =>
    simp only [KT.ok, Bool.and_eq_true, decide_eq_true_eq] at h
    rw [txtB, if_neg (by simp [KT.root]; omega)]
    rfl
  | star t => rw [txtB, if_neg (by simp [KT.root])]; rfl
  | bin p a b => cases p <;> simp [txtB, KT.root, KT.op, txt_or1, txt_or2, txt_seq1, txt_seq2]
theorem txtB_3 {t : KT} (h : t.ok 0 = true) : txtK t 3 = txtB t [20, 19] ∧ txtK t 3 = txtB t [19, 20] := by
  cases t with
  | leaf n =>
    simp only [KT.ok, Bool.and_eq_true, decide_eq_true_eq] at h
    rw [txtB, txtB, if_neg (by simp [KT.root]; omega), if_neg (by simp [KT.root]; omega)]
    exact ⟨rfl, rfl⟩
  | star t => rw [txtB, txtB, if_neg (by simp [KT.root]), if_neg (by simp [KT.root])]; exact ⟨rfl, rfl⟩
  | bin p a b => cases p <;> simp [txtB, KT.root, KT.op, txt_or1, txt_or3, txt_seq1, txt_seq3]
def TxC (t : KT) : Prop := ∀ (lo : Nat) (p : Value) (w : World), RT lo none w t p → t.ok 0 = true → t.size ≤ 40 → MapT w →
  Calls Tryd.prog 22 #[p] w fun e w' => e = .returned (.string ⟨(txtK t 1).toArray⟩) ∧ Below w.heap.size w w'

set_option maxRecDepth 100000 in
set_option maxHeartbeats 3200000 in
theorem wrap_any (t : KT) (ht : TxC t) (lo lo' hi' : Nat) (p v : Value) (S : List Int) (w : World) (hp : RT lo none w t p) (hok : t.ok 0 = true) (hs : t.size ≤ 40) (hM : MapT w) (hx : SlI lo' hi' w v S) (hm : S.length ≤ 100) :
    Calls Tryd.prog 34 #[p, v] w fun e w' => e = .returned (.string ⟨(txtB t S).toArray⟩) ∧ Below w.heap.size w w' := by
  have HC := Lib.hid (ht lo p w hp hok hs hM)
  have hb1 : (txtK t 1).length ≤ 199 := txt_short hok hs 1 (by omega)
  obtain ⟨ps, ⟨b, kv, rfl, _, _, hblk, _⟩, _⟩ := hp.node
  obtain ⟨a, cap, rfl, _, _⟩ := Sl.shape hx
  have HX := Lib.hid hx
  have c0 := hblk.cell 0
  clear hx ht hp
  by_cases hin : t.root ∈ S
  · have HT := Lib.hid (show txtB t S = [40] ++ txtK t 1 ++ [41] by rw [txtB, if_pos hin])
    have hd := decide_eq_true hin
    go_enter Tryd.func34, Tryd.ntmps34
    go_wp2_with fail
    refine (containsI _ _ _ S t.root w HX.out (by omega)).mono ?_
    rintro e w1 ⟨rfl, rfl⟩
    rw [hd]
    go_wp2_with fail
    refine HC.out.mono ?_
    rintro e w2 ⟨rfl, hb⟩
    have HB := Lib.hid hb
    clear hb
    go_wp2
    go_ret
    exact ⟨by rw [HT.out, ← cat2, ← cat2]; rfl, HB.out⟩
  · have HT := Lib.hid (show txtB t S = txtK t 1 by rw [txtB, if_neg hin])
    have hd := decide_eq_false hin
    go_enter Tryd.func34, Tryd.ntmps34
    go_wp2_with fail
    refine (containsI _ _ _ S t.root w HX.out (by omega)).mono ?_
    rintro e w1 ⟨rfl, rfl⟩
    rw [hd]
    go_wp2_with fail
    refine HC.out.mono ?_
    rintro e w2 ⟨rfl, hb⟩
    have HB := Lib.hid hb
    clear hb
    go_wp2
    go_ret
    exact ⟨by rw [HT.out]; rfl, HB.out⟩

set_option maxRecDepth 100000 in
set_option maxHeartbeats 3200000 in
theorem text_leaf (n : Int) : TxC (.leaf n) := by
  intro lo p w hp hok hs hM
  obtain ⟨ps, ⟨b, kv, rfl, _, _, hblk, _⟩, _⟩ := hp.node
  have c0 : w.cell? ⟨b, 0, none⟩ = some (.int .i64 n) := hblk.cell 0
  simp only [KT.ok, Bool.and_eq_true, decide_eq_true_eq] at hok
  obtain ⟨hn0, hn18⟩ := hok
  clear hp
  by_cases h15 : n ≤ 15
  · obtain ⟨m, rfl⟩ : ∃ m : Nat, n = m := ⟨n.toNat, by omega⟩
    have HT := Lib.hid (show txtK (.leaf (m : Int)) 1 = testT m by rw [txt_leaf, if_pos h15]; rfl)
    have hia : isActB (m : Int) = false := by simp [isActB]; omega
    have q1 : ((m : Int) == 19) = false := by simp; omega
    have q2 : ((m : Int) == 20) = false := by simp; omega
    have q3 : ((m : Int) == 21) = false := by simp; omega
    have HM := Lib.hid hM
    clear hM
    go_enter Tryd.func22, Tryd.ntmps22
    go_wp2_with fail
    refine (isAct_any _ w).mono ?_
    rintro e w1 ⟨rfl, rfl⟩
    rw [hia]
    go_wp2_with fail
    refine (impl_TestText m (by omega) w HM.out).mono ?_
    rintro e w1 ⟨rfl, rfl⟩
    go_wp2
    go_ret
    exact ⟨by rw [HT.out]; rfl, Below.refl _ _⟩
  · have h3 : n = 16 ∨ n = 17 ∨ n = 18 := by omega
    clear hM h15
    rcases h3 with rfl | rfl | rfl
    all_goals (
      go_enter Tryd.func22, Tryd.ntmps22
      go_wp2_with fail
      refine (isAct_any _ w).mono ?_
      rintro e w1 ⟨rfl, rfl⟩
      go_wp2
      go_ret
      exact ⟨rfl, Below.refl _ _⟩)

set_option maxRecDepth 100000 in
set_option maxHeartbeats 3200000 in
theorem text_star (x : KT) (ih : TxC x) : TxC (.star x) := by
  intro lo p w hp hok hs hM
  have hokx : x.ok 0 = true := hok
  simp only [KT.size] at hs
  have hb3 : (txtK x 3).length ≤ 199 := txt_short hokx (by omega) 3 (by omega)
  have HT := Lib.hid (show txtK (.star x) 1 = txtB x [19, 20] ++ [42] by rw [txt_star, (txtB_3 hokx).2])
  have hbl : (txtB x [19, 20]).length ≤ 199 := by rw [← (txtB_3 hokx).2]; exact hb3
  obtain ⟨ps, ⟨b, kv, rfl, _, _, hblk, a, cap, rfl, hpc, hcm, hkid⟩, hstk⟩ := hp.node
  have hpl := hstk.length
  simp only [KT.kids, List.length_cons, List.length_nil] at hpl
  obtain ⟨u0, rfl⟩ : ∃ u0, ps = [u0] := by
    match ps, hpl with
    | [x], _ => exact ⟨x, rfl⟩
  obtain ⟨gk, ok, rfl, _, _, hgk, kc0⟩ := hkid 0 (by simp)
  have hu : RT lo none w x u0 := hstk.1
  have c0 : w.cell? ⟨b, 0, none⟩ = some (.int .i64 21) := hblk.cell 0
  have c1 : w.cell? ⟨b, 1, none⟩ = some (.slice (some ⟨gk, ok, none⟩) 1 cap) := hblk.cell 1
  have kc : w.cell? ⟨gk, ok, none⟩ = some u0 := kc0
  have hb1 := al_below w (.cells #[.int .i64 19, .int .i64 20] 3)
  have HC := Lib.hid (wrap_any x ih lo w.heap.size (w.heap.size + 1) u0 (.slice (some ⟨w.heap.size, 0, none⟩) 2 2) [19, 20] (w.alloc (.cells #[.int .i64 19, .int .i64 20] 3)) (hu.below hb1) hokx (by omega) (hM.below hb1)
    (Own.sl (Own.lit 1 3 w (ints [19, 20]) 2 (by omega) rfl)) (by simp))
  have HB1 := Lib.hid hb1
  clear hp hM hu hstk hkid hblk kc0 hb1
  have q1 : isActB 21 = false := by decide
  go_enter Tryd.func22, Tryd.ntmps22
  go_wp2_with fail
  refine (isAct_any _ w).mono ?_
  rintro e w1 ⟨rfl, rfl⟩
  rw [q1]
  go_wp2_with fail
  refine HC.out.mono ?_
  rintro e w2 ⟨rfl, hb⟩
  have HB := Lib.hid (HB1.out.trans (hb.mono (by rw [alloc_size]; omega)))
  clear hb
  go_wp2
  go_ret
  exact ⟨by rw [HT.out, ← cat2]; rfl, HB.out⟩
end Go.Proofs.YtacgefknhncgfaaDoor
