/-
  Texts of walks and plain lemmas for this seat; no condition.
-/
import Derived.Test.YtipbanhelhidnaaGreatDoorGB
import Derived.Test.YtipbanhelhidnaaGreatDoorGM
import Derived.Test.YtipbanhelhidnaaGreatDoorAct
import Derived.Test.YtipbanhelhidnaaGreatDoorGG
import Derived.Test.YtipbanhelhidnaaGreatDoorGL
import Derived.Test.YtipbanhelhidnaaGreatDoorRAct
import Derived.Deep.RegionHeld3
import Derived.Deep.RegionWith
import Derived.Deep.DeepCutAuto
import Derived.Deep.DrawnRows
namespace Go.Proofs.YtipbanhelhidnaaGreatDoor
open Go.RowKit

/-- An act comes back. -/
def RetAc (P : Ac → World → Prop) (e : Ending) (w' : World) : Prop := ∃ A : Ac, e = .returned (.agg #[.int .i64 A.kind, .int .i64 A.step.which, .bool A.step.back, .int .i64 A.step.at_, .int .i64 A.count]) ∧ P A w'
theorem six_get (z : Nat) (h : z < 6) : ∃ y : Int, (#[.int .i64 0, .int .i64 0, .int .i64 0, .int .i64 0, .int .i64 1, .int .i64 2] : Array Value)[z]? = some (.int .i64 y) ∧ 0 ≤ y ∧ y ≤ 2 := by
  match z, h with
  | 0, _ => exact ⟨_, rfl, by omega, by omega⟩
  | 1, _ => exact ⟨_, rfl, by omega, by omega⟩
  | 2, _ => exact ⟨_, rfl, by omega, by omega⟩
  | 3, _ => exact ⟨_, rfl, by omega, by omega⟩
  | 4, _ => exact ⟨_, rfl, by omega, by omega⟩
  | 5, _ => exact ⟨_, rfl, by omega, by omega⟩

/-- The new act, and all else as it was. -/
def Got (g c : Nat) (w0 : World) (gA : Nat) (k : Int) (wx : World) : Prop := Blk gA (.cells #[.int .i64 k, .int .i64 0, .bool false, .int .i64 0, .int .i64 0] 41) wx ∧ w0.heap.size ≤ gA ∧ Outside g (g + 1) w0 wx ∧ Rd g wx (c + 2)
section
variable {g c : Nat} {w0 w2 : World} (O : Outside g (g + 1) w0 w2) (R : Rd g w2 (c + 2))
include O R
theorem got1 (h : w0.heap.size ≤ w2.heap.size) (k : Int) : Got g c w0 w2.heap.size k (w2.alloc (.cells #[.int .i64 k, .int .i64 0, .bool false, .int .i64 0, .int .i64 0] 41)) :=
  ⟨Blk.new _ _, h, O.below (al_below _ _) h, R.al _⟩
theorem got4 (h : w0.heap.size ≤ w2.heap.size) (k : Int) (o : Obj) : Got g c w0 w2.heap.size k ((w2.alloc (.cells #[.int .i64 k, .int .i64 0, .bool false, .int .i64 0, .int .i64 0] 41)).alloc o) :=
  ⟨(Blk.new _ _).al, h, (O.below (al_below _ _) h).below (al_below _ _) (by simp only [alloc_size]; omega), (R.al _).al _⟩
theorem got3 (h : w0.heap.size ≤ w2.heap.size) (k : Int) (o : Obj) : Got g c w0 (w2.heap.size + 1) k ((w2.alloc o).alloc (.cells #[.int .i64 k, .int .i64 0, .bool false, .int .i64 0, .int .i64 0] 41)) := by
  have hb := Blk.new (w2.alloc o) (.cells #[.int .i64 k, .int .i64 0, .bool false, .int .i64 0, .int .i64 0] 41)
  rw [alloc_size] at hb
  exact ⟨hb, by omega, (O.below (al_below _ _) h).below (al_below _ _) (by simp only [alloc_size]; omega), (R.al _).al _⟩
omit O R in
theorem got2 {gA : Nat} (K : Blk gA (.cells #[.int .i64 0, .int .i64 0, .bool false, .int .i64 0, .int .i64 0] 41) w2) (O : Outside g (g + 1) w0 w2) (R : Rd g w2 (c + 2)) (h : w0.heap.size ≤ gA) (hg : g < gA) (k : Int) :
    Got g c w0 gA k (((((w2.setCell ⟨gA, 0, none⟩ (.int .i64 k)).setCell ⟨gA, 1, none⟩ (.int .i64 0)).setCell ⟨gA, 2, none⟩ (.bool false)).setCell ⟨gA, 3, none⟩ (.int .i64 0)).setCell ⟨gA, 4, none⟩ (.int .i64 0)) :=
  ⟨K.set5 _ _ _ _ _, h, O.fresh (Outside.set5 _ _ _ _ _ _ _) h, R.outside (Outside.set5 _ _ _ _ _ _ _) hg⟩
omit O R in
theorem got5 {gA : Nat} (K : Blk gA (.cells #[.int .i64 0, .int .i64 0, .bool false, .int .i64 0, .int .i64 0] 41) w2) (O : Outside g (g + 1) w0 w2) (R : Rd g w2 (c + 2)) (h : w0.heap.size ≤ gA) (hg : g < gA) (k : Int) (o : Obj) :
    Got g c w0 gA k ((((((w2.alloc o).setCell ⟨gA, 0, none⟩ (.int .i64 k)).setCell ⟨gA, 1, none⟩ (.int .i64 0)).setCell ⟨gA, 2, none⟩ (.bool false)).setCell ⟨gA, 3, none⟩ (.int .i64 0)).setCell ⟨gA, 4, none⟩ (.int .i64 0)) :=
  got2 K.al (O.below (al_below _ _) O.size) (R.al _) h hg k
end

set_option maxRecDepth 100000 in
set_option maxHeartbeats 12800000 in
theorem l20Act_any (g c lo hi : Nat) (d0 d1 d2 d3 : Value) (D : Dsk) (w : World) (h : Rd g w c) (hc : c ≤ 1000000) (hx : DeskAt lo hi w d0 d1 d2 d3 D) (hh : hi ≤ w.heap.size) (hap : g + 1 ≤ lo) (hm : D.size ≤ 10000) :
    Calls Tryz.prog 52 #[.pointer (some ⟨g, 0, none⟩), aggD d0 d1 d2 d3] w (RetAc fun _ w' => Outside g (g + 1) w w' ∧ Rd g w' (c + 120)) := by
  have hg := h.lt
  unfold Dsk.size at hm
  obtain ⟨w0, hw0⟩ : ∃ w0, w0 = (w.alloc (.cells #[d0, d1, d2, d3] 31)).alloc (.cells #[.int .i64 0, .int .i64 0, .bool false, .int .i64 0, .int .i64 0] 41) := ⟨_, rfl⟩
  have hb0 : Below w.heap.size w w0 := by rw [hw0]; exact ((Below.refl _ _).alloc (Nat.le_refl _) _).alloc (by simp) _
  have hs0 : w.heap.size + 2 ≤ w0.heap.size := by rw [hw0]; simp
  have KD : Hid (Blk w.heap.size (.cells #[d0, d1, d2, d3] 31) w0) := by
    rw [hw0]
    exact Lib.hid ((Blk.new w _).below ((Below.refl (w.alloc _).heap.size _).alloc (Nat.le_refl _) _) (by simp))
  have KR : Hid (Blk (w.heap.size + 1) (.cells #[.int .i64 0, .int .i64 0, .bool false, .int .i64 0, .int .i64 0] 41) w0) := by
    have h := Blk.new (w.alloc (.cells #[d0, d1, d2, d3] 31)) (.cells #[.int .i64 0, .int .i64 0, .bool false, .int .i64 0, .int .i64 0] 41)
    rw [alloc_size] at h
    rw [hw0]; exact Lib.hid h
  have HR := Lib.hid (h.below hb0 hg)
  have HO := Lib.hid ((Outside.refl g (g + 1) w).below hb0 (Nat.le_refl _))
  have HX := Lib.hid (hx.below hb0 hh)
  have HW0 := Lib.hid hw0
  clear h hx hb0 hw0
  have hg0 : g < w0.heap.size := by omega
  go_enter Tryz.func52, Tryz.ntmps52
  go_upto_region 1 with (rw [← HW0.out])
  try rw [← HW0.out]
  go_cut [5] (fun p wx => ∃ (gA : Nat) (k : Int), p = .pointer (some ⟨gA, 0, none⟩) ∧ Hid (Got g c w0 gA k wx))
  case first =>
    clear HW0 HX HO KD KR
    go_region_with (first
      | (go_at_call_of 19 (Value.int .i64 6); refine (pick_any g c 6 _ (by repeat first | with_reducible exact HR.out | with_reducible apply Rd.drew | with_reducible apply Rd.al) (by omega)).mono ?_; rintro e1 w1 ⟨q1, rfl, i_, o1, r1⟩; obtain ⟨i1, i2⟩ := i_.lt (by omega); clear i_; obtain ⟨z, rfl⟩ : ∃ z : Nat, q1 = z := ⟨q1.toNat, by omega⟩; obtain ⟨y, hy, y1, y2⟩ := six_get z (by omega); (have hz1 := o1.size); (have hg1 := r1.lt); (have R1 := Lib.hid r1); clear r1; (have O1 : Hid (Outside g (g + 1) w0 w1) := Lib.hid (o1.grew (by repeat first | with_reducible exact Grew.refl _ | with_reducible apply Grew.drew | with_reducible apply Grew.al))); (have n1 := lit_new w1 (T := 3) hy); (have n2 := lit_new2 w1 (.cells #[.int .i64 0, .int .i64 0, .bool false, .int .i64 0, .int .i64 0] 41) (T := 3) hy); (have n3 := lit_new3 w1 (.cells #[.int .i64 0, .int .i64 0, .bool false, .int .i64 0, .int .i64 0] 41) (T := 3) hy); with_reducible (first | (obtain ⟨ka, kb⟩ : Blk w0.heap.size (.cells #[.int .i64 0, .int .i64 0, .int .i64 0, .int .i64 0, .int .i64 1, .int .i64 2] 3) _ ∧ Blk (w0.heap.size + 1) (.cells #[.int .i64 0, .int .i64 0, .bool false, .int .i64 0, .int .i64 0] 41) _ := hop2 o1 hg0; (have cl := ka.cell z); (have cx := (Blk.al (x := (.cells #[.int .i64 0, .int .i64 0, .bool false, .int .i64 0, .int .i64 0] 41)) ka).cell z); (have KL := Lib.hid ka); clear ka; (have ca0 := kb.cell 0); (have fa0 := kb.free 0); (have ca1 := kb.cell 1); (have fa1 := kb.free 1); (have ca2 := kb.cell 2); (have fa2 := kb.free 2); (have ca3 := kb.cell 3); (have fa3 := kb.free 3); (have ca4 := kb.cell 4); (have fa4 := kb.free 4); (have kx := Blk.al (x := (.cells #[.int .i64 0, .int .i64 0, .int .i64 0, .int .i64 0, .int .i64 1, .int .i64 2] 3)) kb); (have da0 := kx.cell 0); (have ga0 := kx.free 0); (have da1 := kx.cell 1); (have ga1 := kx.free 1); (have da2 := kx.cell 2); (have ga2 := kx.free 2); (have da3 := kx.cell 3); (have ga3 := kx.free 3); (have da4 := kx.cell 4); (have ga4 := kx.free 4); clear kx; (have KA := Lib.hid kb); clear kb) | (obtain ⟨ka, kb⟩ : Blk w0.heap.size (.cells #[.int .i64 0, .int .i64 0, .bool false, .int .i64 0, .int .i64 0] 41) _ ∧ Blk (w0.heap.size + 1) (.cells #[.int .i64 0, .int .i64 0, .int .i64 0, .int .i64 0, .int .i64 1, .int .i64 2] 3) _ := hop2 o1 hg0; (have ca0 := ka.cell 0); (have fa0 := ka.free 0); (have ca1 := ka.cell 1); (have fa1 := ka.free 1); (have ca2 := ka.cell 2); (have fa2 := ka.free 2); (have ca3 := ka.cell 3); (have fa3 := ka.free 3); (have ca4 := ka.cell 4); (have fa4 := ka.free 4); (have kx := Blk.al (x := (.cells #[.int .i64 0, .int .i64 0, .int .i64 0, .int .i64 0, .int .i64 1, .int .i64 2] 3)) ka); (have da0 := kx.cell 0); (have ga0 := kx.free 0); (have da1 := kx.cell 1); (have ga1 := kx.free 1); (have da2 := kx.cell 2); (have ga2 := kx.free 2); (have da3 := kx.cell 3); (have ga3 := kx.free 3); (have da4 := kx.cell 4); (have ga4 := kx.free 4); clear kx; (have KA := Lib.hid ka); clear ka; (have cl := kb.cell z); (have cx := (Blk.al (x := (.cells #[.int .i64 0, .int .i64 0, .bool false, .int .i64 0, .int .i64 0] 41)) kb).cell z); (have KL := Lib.hid kb); clear kb) | (have ka : Blk w0.heap.size (.cells #[.int .i64 0, .int .i64 0, .int .i64 0, .int .i64 0, .int .i64 1, .int .i64 2] 3) _ := hop1 o1 hg0; (have cl := ka.cell z); (have cx := (Blk.al (x := (.cells #[.int .i64 0, .int .i64 0, .bool false, .int .i64 0, .int .i64 0] 41)) ka).cell z); (have KL := Lib.hid ka); clear ka) | (have ka : Blk w0.heap.size (.cells #[.int .i64 0, .int .i64 0, .bool false, .int .i64 0, .int .i64 0] 41) _ := hop1 o1 hg0; (have ca0 := ka.cell 0); (have fa0 := ka.free 0); (have ca1 := ka.cell 1); (have fa1 := ka.free 1); (have ca2 := ka.cell 2); (have fa2 := ka.free 2); (have ca3 := ka.cell 3); (have fa3 := ka.free 3); (have ca4 := ka.cell 4); (have fa4 := ka.free 4); (have kx := Blk.al (x := (.cells #[.int .i64 0, .int .i64 0, .int .i64 0, .int .i64 0, .int .i64 1, .int .i64 2] 3)) ka); (have da0 := kx.cell 0); (have ga0 := kx.free 0); (have da1 := kx.cell 1); (have ga1 := kx.free 1); (have da2 := kx.cell 2); (have ga2 := kx.free 2); (have da3 := kx.cell 3); (have ga3 := kx.free 3); (have da4 := kx.cell 4); (have ga4 := kx.free 4); clear kx; (have KA := Lib.hid ka); clear ka) | skip); clear o1)
      | (go_at_call_of 19 (Value.int .i64 60); refine (pick_any g (c + 1) 60 _ (by repeat first | with_reducible exact R1.out | with_reducible apply Rd.drew | with_reducible apply Rd.al) (by omega)).mono ?_; rintro e2 w2 ⟨q2, rfl, i_, o2, r2⟩; obtain ⟨j1, j2⟩ := i_.lt (by omega); clear i_; (have hz2 := o2.size); (have R2 := Lib.hid r2); clear r2; (have O2 : Hid (Outside g (g + 1) w0 w2) := Lib.hid (O1.out.trans (o2.grew (by repeat first | with_reducible exact Grew.refl _ | with_reducible apply Grew.drew | with_reducible apply Grew.al)))); (have m1 := lit_new w2 (T := 3) hy); (have m2 := lit_new2 w2 (.cells #[.int .i64 0, .int .i64 0, .bool false, .int .i64 0, .int .i64 0] 41) (T := 3) hy); (have m3 := lit_new3 w2 (.cells #[.int .i64 0, .int .i64 0, .bool false, .int .i64 0, .int .i64 0] 41) (T := 3) hy); (with_reducible try (first | (have ka := Blk.outside KL.out o2 (.inr (by omega)); clear KL; (have cl := ka.cell z); (have cx := (Blk.al (x := (.cells #[.int .i64 0, .int .i64 0, .bool false, .int .i64 0, .int .i64 0] 41)) ka).cell z); (have KL := Lib.hid ka); clear ka) | (have ka := Blk.outside (Blk.al KL.out) o2 (.inr (by omega)); clear KL; (have cl := ka.cell z); (have cx := (Blk.al (x := (.cells #[.int .i64 0, .int .i64 0, .bool false, .int .i64 0, .int .i64 0] 41)) ka).cell z); (have KL := Lib.hid ka); clear ka) | (have ka := Blk.outside (Blk.al (Blk.al KL.out)) o2 (.inr (by omega)); clear KL; (have cl := ka.cell z); (have cx := (Blk.al (x := (.cells #[.int .i64 0, .int .i64 0, .bool false, .int .i64 0, .int .i64 0] 41)) ka).cell z); (have KL := Lib.hid ka); clear ka))); (with_reducible try (first | (have ka := Blk.outside KA.out o2 (.inr (by omega)); clear KA; (have ca0 := ka.cell 0); (have fa0 := ka.free 0); (have ca1 := ka.cell 1); (have fa1 := ka.free 1); (have ca2 := ka.cell 2); (have fa2 := ka.free 2); (have ca3 := ka.cell 3); (have fa3 := ka.free 3); (have ca4 := ka.cell 4); (have fa4 := ka.free 4); (have kx := Blk.al (x := (.cells #[.int .i64 0, .int .i64 0, .int .i64 0, .int .i64 0, .int .i64 1, .int .i64 2] 3)) ka); (have da0 := kx.cell 0); (have ga0 := kx.free 0); (have da1 := kx.cell 1); (have ga1 := kx.free 1); (have da2 := kx.cell 2); (have ga2 := kx.free 2); (have da3 := kx.cell 3); (have ga3 := kx.free 3); (have da4 := kx.cell 4); (have ga4 := kx.free 4); clear kx; (have KA := Lib.hid ka); clear ka) | (have ka := Blk.outside (Blk.al KA.out) o2 (.inr (by omega)); clear KA; (have ca0 := ka.cell 0); (have fa0 := ka.free 0); (have ca1 := ka.cell 1); (have fa1 := ka.free 1); (have ca2 := ka.cell 2); (have fa2 := ka.free 2); (have ca3 := ka.cell 3); (have fa3 := ka.free 3); (have ca4 := ka.cell 4); (have fa4 := ka.free 4); (have kx := Blk.al (x := (.cells #[.int .i64 0, .int .i64 0, .int .i64 0, .int .i64 0, .int .i64 1, .int .i64 2] 3)) ka); (have da0 := kx.cell 0); (have ga0 := kx.free 0); (have da1 := kx.cell 1); (have ga1 := kx.free 1); (have da2 := kx.cell 2); (have ga2 := kx.free 2); (have da3 := kx.cell 3); (have ga3 := kx.free 3); (have da4 := kx.cell 4); (have ga4 := kx.free 4); clear kx; (have KA := Lib.hid ka); clear ka) | (have ka := Blk.outside (Blk.al (Blk.al KA.out)) o2 (.inr (by omega)); clear KA; (have ca0 := ka.cell 0); (have fa0 := ka.free 0); (have ca1 := ka.cell 1); (have fa1 := ka.free 1); (have ca2 := ka.cell 2); (have fa2 := ka.free 2); (have ca3 := ka.cell 3); (have fa3 := ka.free 3); (have ca4 := ka.cell 4); (have fa4 := ka.free 4); (have kx := Blk.al (x := (.cells #[.int .i64 0, .int .i64 0, .int .i64 0, .int .i64 0, .int .i64 1, .int .i64 2] 3)) ka); (have da0 := kx.cell 0); (have ga0 := kx.free 0); (have da1 := kx.cell 1); (have ga1 := kx.free 1); (have da2 := kx.cell 2); (have ga2 := kx.free 2); (have da3 := kx.cell 3); (have ga3 := kx.free 3); (have da4 := kx.cell 4); (have ga4 := kx.free 4); clear kx; (have KA := Lib.hid ka); clear ka))); (with_reducible (first | (obtain ⟨ka, kb⟩ : Blk w1.heap.size (.cells #[.int .i64 0, .int .i64 0, .int .i64 0, .int .i64 0, .int .i64 1, .int .i64 2] 3) _ ∧ Blk (w1.heap.size + 1) (.cells #[.int .i64 0, .int .i64 0, .bool false, .int .i64 0, .int .i64 0] 41) _ := hop4 o2 hg1; (have cl := ka.cell z); (have cx := (Blk.al (x := (.cells #[.int .i64 0, .int .i64 0, .bool false, .int .i64 0, .int .i64 0] 41)) ka).cell z); (have KL := Lib.hid ka); clear ka; (have ca0 := kb.cell 0); (have fa0 := kb.free 0); (have ca1 := kb.cell 1); (have fa1 := kb.free 1); (have ca2 := kb.cell 2); (have fa2 := kb.free 2); (have ca3 := kb.cell 3); (have fa3 := kb.free 3); (have ca4 := kb.cell 4); (have fa4 := kb.free 4); (have kx := Blk.al (x := (.cells #[.int .i64 0, .int .i64 0, .int .i64 0, .int .i64 0, .int .i64 1, .int .i64 2] 3)) kb); (have da0 := kx.cell 0); (have ga0 := kx.free 0); (have da1 := kx.cell 1); (have ga1 := kx.free 1); (have da2 := kx.cell 2); (have ga2 := kx.free 2); (have da3 := kx.cell 3); (have ga3 := kx.free 3); (have da4 := kx.cell 4); (have ga4 := kx.free 4); clear kx; (have KA := Lib.hid kb); clear kb) | (obtain ⟨ka, kb⟩ : Blk w1.heap.size (.cells #[.int .i64 0, .int .i64 0, .bool false, .int .i64 0, .int .i64 0] 41) _ ∧ Blk (w1.heap.size + 1) (.cells #[.int .i64 0, .int .i64 0, .int .i64 0, .int .i64 0, .int .i64 1, .int .i64 2] 3) _ := hop4 o2 hg1; (have ca0 := ka.cell 0); (have fa0 := ka.free 0); (have ca1 := ka.cell 1); (have fa1 := ka.free 1); (have ca2 := ka.cell 2); (have fa2 := ka.free 2); (have ca3 := ka.cell 3); (have fa3 := ka.free 3); (have ca4 := ka.cell 4); (have fa4 := ka.free 4); (have kx := Blk.al (x := (.cells #[.int .i64 0, .int .i64 0, .int .i64 0, .int .i64 0, .int .i64 1, .int .i64 2] 3)) ka); (have da0 := kx.cell 0); (have ga0 := kx.free 0); (have da1 := kx.cell 1); (have ga1 := kx.free 1); (have da2 := kx.cell 2); (have ga2 := kx.free 2); (have da3 := kx.cell 3); (have ga3 := kx.free 3); (have da4 := kx.cell 4); (have ga4 := kx.free 4); clear kx; (have KA := Lib.hid ka); clear ka; (have cl := kb.cell z); (have cx := (Blk.al (x := (.cells #[.int .i64 0, .int .i64 0, .bool false, .int .i64 0, .int .i64 0] 41)) kb).cell z); (have KL := Lib.hid kb); clear kb) | (have ka : Blk w1.heap.size (.cells #[.int .i64 0, .int .i64 0, .int .i64 0, .int .i64 0, .int .i64 1, .int .i64 2] 3) _ := hop3 o2 hg1; (have cl := ka.cell z); (have cx := (Blk.al (x := (.cells #[.int .i64 0, .int .i64 0, .bool false, .int .i64 0, .int .i64 0] 41)) ka).cell z); (have KL := Lib.hid ka); clear ka) | (have ka : Blk w1.heap.size (.cells #[.int .i64 0, .int .i64 0, .bool false, .int .i64 0, .int .i64 0] 41) _ := hop3 o2 hg1; (have ca0 := ka.cell 0); (have fa0 := ka.free 0); (have ca1 := ka.cell 1); (have fa1 := ka.free 1); (have ca2 := ka.cell 2); (have fa2 := ka.free 2); (have ca3 := ka.cell 3); (have fa3 := ka.free 3); (have ca4 := ka.cell 4); (have fa4 := ka.free 4); (have kx := Blk.al (x := (.cells #[.int .i64 0, .int .i64 0, .int .i64 0, .int .i64 0, .int .i64 1, .int .i64 2] 3)) ka); (have da0 := kx.cell 0); (have ga0 := kx.free 0); (have da1 := kx.cell 1); (have ga1 := kx.free 1); (have da2 := kx.cell 2); (have ga2 := kx.free 2); (have da3 := kx.cell 3); (have ga3 := kx.free 3); (have da4 := kx.cell 4); (have ga4 := kx.free 4); clear kx; (have KA := Lib.hid ka); clear ka) | skip)); clear o2))
    · go_wp2_with fail
      go_meet
      exact ⟨_, _, rfl, Lib.hid (got1 O2.out R2.out (by have h1_ := O1.out.size; have h2_ := O2.out.size; omega) _)⟩
    · go_wp2_with fail
      go_meet
      exact ⟨_, _, rfl, Lib.hid (got2 KA.out O2.out R2.out (by have h1_ := O1.out.size; have h2_ := O2.out.size; omega) (by have h1_ := O1.out.size; have h2_ := O2.out.size; omega) _)⟩
    · go_wp2_with fail
      go_meet
      exact ⟨_, _, rfl, Lib.hid (got1 O2.out R2.out (by have h1_ := O1.out.size; have h2_ := O2.out.size; omega) _)⟩
    · go_wp2_with fail
      go_meet
      exact ⟨_, _, rfl, Lib.hid (got1 O2.out R2.out (by have h1_ := O1.out.size; have h2_ := O2.out.size; omega) _)⟩
    · go_wp2_with fail
      go_meet
      exact ⟨_, _, rfl, Lib.hid (got2 KA.out O2.out R2.out (by have h1_ := O1.out.size; have h2_ := O2.out.size; omega) (by have h1_ := O1.out.size; have h2_ := O2.out.size; omega) _)⟩
    · go_wp2_with fail
      go_meet
      exact ⟨_, _, rfl, Lib.hid (got2 KA.out O2.out R2.out (by have h1_ := O1.out.size; have h2_ := O2.out.size; omega) (by have h1_ := O1.out.size; have h2_ := O2.out.size; omega) _)⟩
    · go_wp2_with fail
      go_meet
      exact ⟨_, _, rfl, Lib.hid (got2 KA.out O2.out R2.out (by have h1_ := O1.out.size; have h2_ := O2.out.size; omega) (by have h1_ := O1.out.size; have h2_ := O2.out.size; omega) _)⟩
    · go_wp2_with fail
      go_meet
      exact ⟨_, _, rfl, Lib.hid (got2 KA.out O2.out R2.out (by have h1_ := O1.out.size; have h2_ := O2.out.size; omega) (by have h1_ := O1.out.size; have h2_ := O2.out.size; omega) _)⟩
    · go_wp2_with fail
      go_meet
      exact ⟨_, _, rfl, Lib.hid (got1 O2.out R2.out (by have h1_ := O1.out.size; have h2_ := O2.out.size; omega) _)⟩
    · go_wp2_with fail
      go_meet
      exact ⟨_, _, rfl, Lib.hid (got2 KA.out O2.out R2.out (by have h1_ := O1.out.size; have h2_ := O2.out.size; omega) (by have h1_ := O1.out.size; have h2_ := O2.out.size; omega) _)⟩
    · go_wp2_with fail
      go_meet
      exact ⟨_, _, rfl, Lib.hid (got1 O2.out R2.out (by have h1_ := O1.out.size; have h2_ := O2.out.size; omega) _)⟩
    · go_wp2_with fail
      go_meet
      exact ⟨_, _, rfl, Lib.hid (got1 O2.out R2.out (by have h1_ := O1.out.size; have h2_ := O2.out.size; omega) _)⟩
    · go_wp2_with fail
      go_meet
      exact ⟨_, _, rfl, Lib.hid (got2 KA.out O2.out R2.out (by have h1_ := O1.out.size; have h2_ := O2.out.size; omega) (by have h1_ := O1.out.size; have h2_ := O2.out.size; omega) _)⟩
    · go_wp2_with fail
      go_meet
      exact ⟨_, _, rfl, Lib.hid (got2 KA.out O2.out R2.out (by have h1_ := O1.out.size; have h2_ := O2.out.size; omega) (by have h1_ := O1.out.size; have h2_ := O2.out.size; omega) _)⟩
    · go_wp2_with fail
      go_meet
      exact ⟨_, _, rfl, Lib.hid (got3 O2.out R2.out (by have h1_ := O1.out.size; have h2_ := O2.out.size; omega) _ _)⟩
    · go_wp2_with fail
      go_meet
      exact ⟨_, _, rfl, Lib.hid (got3 O2.out R2.out (by have h1_ := O1.out.size; have h2_ := O2.out.size; omega) _ _)⟩
    · go_wp2_with fail
      go_meet
      exact ⟨_, _, rfl, Lib.hid (got4 O2.out R2.out (by have h1_ := O1.out.size; have h2_ := O2.out.size; omega) _ _)⟩
    · go_wp2_with fail
      go_meet
      exact ⟨_, _, rfl, Lib.hid (got2 KA.out O2.out R2.out (by have h1_ := O1.out.size; have h2_ := O2.out.size; omega) (by have h1_ := O1.out.size; have h2_ := O2.out.size; omega) _)⟩
    · go_wp2_with fail
      go_meet
      exact ⟨_, _, rfl, Lib.hid (got2 KA.out O2.out R2.out (by have h1_ := O1.out.size; have h2_ := O2.out.size; omega) (by have h1_ := O1.out.size; have h2_ := O2.out.size; omega) _)⟩
    · go_wp2_with fail
      go_meet
      exact ⟨_, _, rfl, Lib.hid (got5 KA.out O2.out R2.out (by have h1_ := O1.out.size; have h2_ := O2.out.size; omega) (by have h1_ := O1.out.size; have h2_ := O2.out.size; omega) _ _)⟩
    · go_wp2_with fail
      go_meet
      exact ⟨_, _, rfl, Lib.hid (got2 KA.out O2.out R2.out (by have h1_ := O1.out.size; have h2_ := O2.out.size; omega) (by have h1_ := O1.out.size; have h2_ := O2.out.size; omega) _)⟩
    · go_wp2_with fail
      go_meet
      exact ⟨_, _, rfl, Lib.hid (got2 KA.out O2.out R2.out (by have h1_ := O1.out.size; have h2_ := O2.out.size; omega) (by have h1_ := O1.out.size; have h2_ := O2.out.size; omega) _)⟩
    · go_wp2_with fail
      go_meet
      exact ⟨_, _, rfl, Lib.hid (got2 KA.out O2.out R2.out (by have h1_ := O1.out.size; have h2_ := O2.out.size; omega) (by have h1_ := O1.out.size; have h2_ := O2.out.size; omega) _)⟩
    · go_wp2_with fail
      go_meet
      exact ⟨_, _, rfl, Lib.hid (got2 KA.out O2.out R2.out (by have h1_ := O1.out.size; have h2_ := O2.out.size; omega) (by have h1_ := O1.out.size; have h2_ := O2.out.size; omega) _)⟩
    · go_wp2_with fail
      go_meet
      exact ⟨_, _, rfl, Lib.hid (got5 KA.out O2.out R2.out (by have h1_ := O1.out.size; have h2_ := O2.out.size; omega) (by have h1_ := O1.out.size; have h2_ := O2.out.size; omega) _ _)⟩
  case rest =>
    obtain ⟨gA, k, rfl, HQ⟩ := hcut
    obtain ⟨w1, rfl⟩ : ∃ x_, x_ = wc := ⟨_, rfl⟩
    obtain ⟨KA_, hgA, O_, R_⟩ := HQ.out
    have KA := Lib.hid KA_
    have HO1 := Lib.hid (HO.out.trans O_)
    have HR1 := Lib.hid R_
    replace KR := Lib.hid (KR.out.outside O_ (.inr (by omega)))
    replace KD := Lib.hid (KD.out.outside O_ (.inr (by omega)))
    replace HX := Lib.hid (HX.out.outside O_ (.inr (by omega)))
    have hz1 := O_.size
    have hl1 := KA_.lt
    clear HQ KA_ O_ R_ HO HR HW0
    have hwA : w.heap.size + 2 ≤ gA := by omega
    by_cases k0 : k = 0
    · subst k0
      have d3 := KD.out.cell 3
      have k0_ := KA.out.cell 0
      have k1_ := KA.out.cell 1
      have k2_ := KA.out.cell 2
      have k3_ := KA.out.cell 3
      have g1_ := KA.out.free 1
      have g2_ := KA.out.free 2
      have g3_ := KA.out.free 3
      go_wp2_with fail
      clear d3 k0_ k1_ k2_ k3_ g1_ g2_ g3_
      refine (l20Fit_any g (c + 2) lo hi _ D.now _ HR1.out (by omega) HX.out.now (by omega) (by omega) hap).mono ?_
      rintro e w3 ⟨m, rfl, ho_, hr_⟩
      replace KA := Lib.hid (KA.out.outside ho_ (.inr (by omega)))
      replace KR := Lib.hid (KR.out.outside ho_ (.inr (by omega)))
      replace HO1 := Lib.hid (HO1.out.trans ho_)
      replace HR1 := Lib.hid hr_
      have hz_w3 := ho_.size
      have k1_ := KA.out.cell 1
      have k2_ := KA.out.cell 2
      have k3_ := KA.out.cell 3
      have g1_ := KA.out.free 1
      have g2_ := KA.out.free 2
      have g3_ := KA.out.free 3
      obtain ⟨w5, hw5⟩ : ∃ w5, w5 = ((w3.setCell ⟨gA, 1, none⟩ (.int .i64 m.which)).setCell ⟨gA, 2, none⟩ (.bool m.back)).setCell ⟨gA, 3, none⟩ (.int .i64 m.at_) := ⟨_, rfl⟩
      have O5 := Outside.put3 gA w3 (.int .i64 m.which) (.bool m.back) (.int .i64 m.at_)
      have K5 := KA.out.put3 (.int .i64 m.which) (.bool m.back) (.int .i64 m.at_)
      rw [← hw5] at O5 K5
      have KR5 := KR.out.outside O5 (by omega)
      have HO5 := HO1.out.fresh O5 (by omega)
      have HR5 := HR1.out.outside O5 (by omega)
      have hz5 := O5.size
      have HW5 := Lib.hid hw5
      clear hw5 O5
      go_upto_region 7 with (rw [← HW5.out])
      try rw [← HW5.out]
      clear KA KR HO1 HR1 k1_ k2_ k3_ g1_ g2_ g3_ HW5
      have KA := Lib.hid K5
      have KR := Lib.hid KR5
      have HO1 := Lib.hid HO5
      have HR1 := Lib.hid HR5
      clear K5 KR5 HO5 HR5
      clear ho_ hr_
      go_wp2_with fail
      refine (odd_any g _ 40 _ HR1.out (by omega) (by omega)).mono ?_
      rintro e w8 ⟨b_, rfl, ho_, hr_⟩
      replace KA := Lib.hid (KA.out.outside ho_ (.inr (by omega)))
      replace KR := Lib.hid (KR.out.outside ho_ (.inr (by omega)))
      replace HO1 := Lib.hid (HO1.out.trans ho_)
      replace HR1 := Lib.hid hr_
      have hz_w8 := ho_.size

      clear ho_ hr_
      cases b_
      · have q0 := KA.out.cell 0
        have q1 := KA.out.cell 1
        have q2 := KA.out.cell 2
        have q3 := KA.out.cell 3
        have q4 := KA.out.cell 4
        have r0 := KR.out.cell 0
        have r1 := KR.out.cell 1
        have r2 := KR.out.cell 2
        have r3 := KR.out.cell 3
        have r4 := KR.out.cell 4
        have s0 := KR.out.free 0
        have s1 := KR.out.free 1
        have s2 := KR.out.free 2
        have s3 := KR.out.free 3
        have s4 := KR.out.free 4
        obtain ⟨wz, hwz⟩ : ∃ wz, wz = (((((w8.setCell ⟨w.heap.size + 1, 0, none⟩ (.int .i64 (0))).setCell ⟨w.heap.size + 1, 1, none⟩ (.int .i64 (m.which))).setCell ⟨w.heap.size + 1, 2, none⟩ (.bool m.back)).setCell ⟨w.heap.size + 1, 3, none⟩ (.int .i64 (m.at_))).setCell ⟨w.heap.size + 1, 4, none⟩ (.int .i64 (0))) := ⟨_, rfl⟩
        have KZ := KR.out.set5 (.int .i64 (0)) (.int .i64 (m.which)) (.bool m.back) (.int .i64 (m.at_)) (.int .i64 (0))
        have OZ := Outside.set5 (w.heap.size + 1) w8 (.int .i64 (0)) (.int .i64 (m.which)) (.bool m.back) (.int .i64 (m.at_)) (.int .i64 (0))
        rw [← hwz] at KZ OZ
        have z0 := KZ.cell 0
        have z1 := KZ.cell 1
        have z2 := KZ.cell 2
        have z3 := KZ.cell 3
        have z4 := KZ.cell 4
        have HE := Lib.hid (And.intro (HO1.out.fresh OZ (by omega)) ((HR1.out.outside OZ (by omega)).mono (show _ ≤ c + 120 by omega)))
        clear KZ OZ
        go_wp2_with fail
        simp only [← hwz]
        clear hwz
        refine bodyPost_ret (v := .agg #[.int .i64 (0), .int .i64 (m.which), .bool m.back, .int .i64 (m.at_), .int .i64 (0)]) (by simp [results, Tryz.results52, go_sem, z0, z1, z2, z3, z4]) rfl ⟨⟨0, ⟨m.which, m.back, m.at_⟩, 0⟩, rfl, HE.out⟩
      · have p4 := KA.out.cell 4
        have p5 := KA.out.free 4
        have pd4 := (KA.out.drew).cell 4
        have pd5 := (KA.out.drew).free 4
        go_upto_region 8 with fail
        go_cut [] (fun wx => ∃ k8 : Int, Hid (Blk gA (.cells #[.int .i64 (0), .int .i64 (m.which), .bool m.back, .int .i64 (m.at_), .int .i64 k8] 41) wx ∧ Outside g (g + 1) w wx ∧ Rd g wx (c + 110) ∧ Blk (w.heap.size + 1) (.cells #[.int .i64 0, .int .i64 0, .bool false, .int .i64 0, .int .i64 0] 41) wx))
        case first =>
          go_region_with (first
            | (go_at_call 19; refine (pick_any g _ 120 _ (by repeat first | with_reducible exact HR1.out | with_reducible apply Rd.drew) (by omega)).mono ?_; rintro e9 w9 ⟨q9, rfl, i9_, o9_, r9_⟩; (have hz9 := o9_.size); (have ka9 := Blk.outside (KA.out.drew) o9_ (.inr (by omega))); (have p9 := ka9.cell 4); (have f9 := ka9.free 4); (have K9 := Lib.hid ka9); (have R9 := Lib.hid r9_); (have O9 := Lib.hid o9_.undrew); clear ka9 r9_ o9_ i9_))
          all_goals (
            go_wp2_with fail
            go_meet
            exact ⟨_, Lib.hid ⟨K9.out.put4 _, (HO1.out.trans O9.out).fresh (Outside.pute _ _ _ _) (by omega), (R9.out.outside (Outside.pute _ _ _ _) (by omega)).mono (by omega), (KR.out.outside O9.out (.inr (by omega))).outside (Outside.pute _ _ _ _) (by omega)⟩⟩)
        case rest =>
          obtain ⟨k8, H8⟩ := hcut
          obtain ⟨w9, rfl⟩ : ∃ x_, x_ = wc := ⟨_, rfl⟩
          obtain ⟨ka_, o_, r_, kr_⟩ := H8.out
          clear H8 KA KR
          have KA := Lib.hid ka_
          have KR := Lib.hid kr_
          replace HO1 := Lib.hid o_
          replace HR1 := Lib.hid r_
          have hz_9 := o_.size
          clear ka_ o_ r_ kr_ p4 p5 pd4 pd5
          have q0 := KA.out.cell 0
          have q1 := KA.out.cell 1
          have q2 := KA.out.cell 2
          have q3 := KA.out.cell 3
          have q4 := KA.out.cell 4
          have r0 := KR.out.cell 0
          have r1 := KR.out.cell 1
          have r2 := KR.out.cell 2
          have r3 := KR.out.cell 3
          have r4 := KR.out.cell 4
          have s0 := KR.out.free 0
          have s1 := KR.out.free 1
          have s2 := KR.out.free 2
          have s3 := KR.out.free 3
          have s4 := KR.out.free 4
          obtain ⟨wz, hwz⟩ : ∃ wz, wz = (((((w9.setCell ⟨w.heap.size + 1, 0, none⟩ (.int .i64 (0))).setCell ⟨w.heap.size + 1, 1, none⟩ (.int .i64 (m.which))).setCell ⟨w.heap.size + 1, 2, none⟩ (.bool m.back)).setCell ⟨w.heap.size + 1, 3, none⟩ (.int .i64 (m.at_))).setCell ⟨w.heap.size + 1, 4, none⟩ (.int .i64 (k8))) := ⟨_, rfl⟩
          have KZ := KR.out.set5 (.int .i64 (0)) (.int .i64 (m.which)) (.bool m.back) (.int .i64 (m.at_)) (.int .i64 (k8))
          have OZ := Outside.set5 (w.heap.size + 1) w9 (.int .i64 (0)) (.int .i64 (m.which)) (.bool m.back) (.int .i64 (m.at_)) (.int .i64 (k8))
          rw [← hwz] at KZ OZ
          have z0 := KZ.cell 0
          have z1 := KZ.cell 1
          have z2 := KZ.cell 2
          have z3 := KZ.cell 3
          have z4 := KZ.cell 4
          have HE := Lib.hid (And.intro (HO1.out.fresh OZ (by omega)) ((HR1.out.outside OZ (by omega)).mono (show _ ≤ c + 120 by omega)))
          clear KZ OZ
          go_wp2_with fail
          simp only [← hwz]
          clear hwz
          refine bodyPost_ret (v := .agg #[.int .i64 (0), .int .i64 (m.which), .bool m.back, .int .i64 (m.at_), .int .i64 (k8)]) (by simp [results, Tryz.results52, go_sem, z0, z1, z2, z3, z4]) rfl ⟨⟨0, ⟨m.which, m.back, m.at_⟩, k8⟩, rfl, HE.out⟩
    · by_cases k1 : k = 1
      · subst k1
        have k0_ := KA.out.cell 0
        have k4_ := KA.out.cell 4
        have g4_ := KA.out.free 4
        go_wp2_with fail
        clear k0_ k4_ g4_
        refine (pick_any g (c + 2) 3 _ HR1.out (by omega)).mono ?_
        rintro e w3 ⟨qb, rfl, i3_, ho_, hr_⟩
        replace KA := Lib.hid (KA.out.outside ho_ (.inr (by omega)))
        replace KR := Lib.hid (KR.out.outside ho_ (.inr (by omega)))
        replace HO1 := Lib.hid (HO1.out.trans ho_)
        replace HR1 := Lib.hid hr_
        have hz_w3 := ho_.size
        have g4_ := KA.out.free 4
        have k4_ := KA.out.cell 4
        obtain ⟨i31, i32⟩ := i3_.lt (by omega)
        clear i3_
        obtain ⟨w5, hw5⟩ : ∃ w5, w5 = (w3.setCell ⟨gA, 4, none⟩ (.int .i64 (1 + qb))) := ⟨_, rfl⟩
        have O5 := Outside.pute gA 4 w3 (.int .i64 (1 + qb))
        have K5 := KA.out.put4 (.int .i64 (1 + qb))
        rw [← hw5] at O5 K5
        have KR5 := KR.out.outside O5 (by omega)
        have HO5 := HO1.out.fresh O5 (by omega)
        have HR5 := HR1.out.outside O5 (by omega)
        have hz5 := O5.size
        have HW5 := Lib.hid hw5
        clear hw5 O5
        go_upto_region 7 with (rw [← HW5.out])
        try rw [← HW5.out]
        clear KA KR HO1 HR1 k4_ g4_ HW5
        have KA := Lib.hid K5
        have KR := Lib.hid KR5
        have HO1 := Lib.hid HO5
        have HR1 := Lib.hid HR5
        clear K5 KR5 HO5 HR5
        clear ho_ hr_
        go_wp2_with fail
        refine (odd_any g _ 40 _ HR1.out (by omega) (by omega)).mono ?_
        rintro e w8 ⟨b_, rfl, ho_, hr_⟩
        replace KA := Lib.hid (KA.out.outside ho_ (.inr (by omega)))
        replace KR := Lib.hid (KR.out.outside ho_ (.inr (by omega)))
        replace HO1 := Lib.hid (HO1.out.trans ho_)
        replace HR1 := Lib.hid hr_
        have hz_w8 := ho_.size

        clear ho_ hr_
        cases b_
        · have q0 := KA.out.cell 0
          have q1 := KA.out.cell 1
          have q2 := KA.out.cell 2
          have q3 := KA.out.cell 3
          have q4 := KA.out.cell 4
          have r0 := KR.out.cell 0
          have r1 := KR.out.cell 1
          have r2 := KR.out.cell 2
          have r3 := KR.out.cell 3
          have r4 := KR.out.cell 4
          have s0 := KR.out.free 0
          have s1 := KR.out.free 1
          have s2 := KR.out.free 2
          have s3 := KR.out.free 3
          have s4 := KR.out.free 4
          obtain ⟨wz, hwz⟩ : ∃ wz, wz = (((((w8.setCell ⟨w.heap.size + 1, 0, none⟩ (.int .i64 (1))).setCell ⟨w.heap.size + 1, 1, none⟩ (.int .i64 (0))).setCell ⟨w.heap.size + 1, 2, none⟩ (.bool false)).setCell ⟨w.heap.size + 1, 3, none⟩ (.int .i64 (0))).setCell ⟨w.heap.size + 1, 4, none⟩ (.int .i64 (1 + qb))) := ⟨_, rfl⟩
          have KZ := KR.out.set5 (.int .i64 (1)) (.int .i64 (0)) (.bool false) (.int .i64 (0)) (.int .i64 (1 + qb))
          have OZ := Outside.set5 (w.heap.size + 1) w8 (.int .i64 (1)) (.int .i64 (0)) (.bool false) (.int .i64 (0)) (.int .i64 (1 + qb))
          rw [← hwz] at KZ OZ
          have z0 := KZ.cell 0
          have z1 := KZ.cell 1
          have z2 := KZ.cell 2
          have z3 := KZ.cell 3
          have z4 := KZ.cell 4
          have HE := Lib.hid (And.intro (HO1.out.fresh OZ (by omega)) ((HR1.out.outside OZ (by omega)).mono (show _ ≤ c + 120 by omega)))
          clear KZ OZ
          go_wp2_with fail
          simp only [← hwz]
          clear hwz
          refine bodyPost_ret (v := .agg #[.int .i64 (1), .int .i64 (0), .bool false, .int .i64 (0), .int .i64 (1 + qb)]) (by simp [results, Tryz.results52, go_sem, z0, z1, z2, z3, z4]) rfl ⟨⟨1, ⟨0, false, 0⟩, 1 + qb⟩, rfl, HE.out⟩
        · have p4 := KA.out.cell 4
          have p5 := KA.out.free 4
          have pd4 := (KA.out.drew).cell 4
          have pd5 := (KA.out.drew).free 4
          go_upto_region 8 with fail
          go_cut [] (fun wx => ∃ k8 : Int, Hid (Blk gA (.cells #[.int .i64 (1), .int .i64 (0), .bool false, .int .i64 (0), .int .i64 k8] 41) wx ∧ Outside g (g + 1) w wx ∧ Rd g wx (c + 110) ∧ Blk (w.heap.size + 1) (.cells #[.int .i64 0, .int .i64 0, .bool false, .int .i64 0, .int .i64 0] 41) wx))
          case first =>
            go_region_with (first
              | (go_at_call 19; refine (pick_any g _ 120 _ (by repeat first | with_reducible exact HR1.out | with_reducible apply Rd.drew) (by omega)).mono ?_; rintro e9 w9 ⟨q9, rfl, i9_, o9_, r9_⟩; (have hz9 := o9_.size); (have ka9 := Blk.outside (KA.out.drew) o9_ (.inr (by omega))); (have p9 := ka9.cell 4); (have f9 := ka9.free 4); (have K9 := Lib.hid ka9); (have R9 := Lib.hid r9_); (have O9 := Lib.hid o9_.undrew); clear ka9 r9_ o9_ i9_))
            all_goals (
              go_wp2_with fail
              go_meet
              exact ⟨_, Lib.hid ⟨K9.out.put4 _, (HO1.out.trans O9.out).fresh (Outside.pute _ _ _ _) (by omega), (R9.out.outside (Outside.pute _ _ _ _) (by omega)).mono (by omega), (KR.out.outside O9.out (.inr (by omega))).outside (Outside.pute _ _ _ _) (by omega)⟩⟩)
          case rest =>
            obtain ⟨k8, H8⟩ := hcut
            obtain ⟨w9, rfl⟩ : ∃ x_, x_ = wc := ⟨_, rfl⟩
            obtain ⟨ka_, o_, r_, kr_⟩ := H8.out
            clear H8 KA KR
            have KA := Lib.hid ka_
            have KR := Lib.hid kr_
            replace HO1 := Lib.hid o_
            replace HR1 := Lib.hid r_
            have hz_9 := o_.size
            clear ka_ o_ r_ kr_ p4 p5 pd4 pd5
            have q0 := KA.out.cell 0
            have q1 := KA.out.cell 1
            have q2 := KA.out.cell 2
            have q3 := KA.out.cell 3
            have q4 := KA.out.cell 4
            have r0 := KR.out.cell 0
            have r1 := KR.out.cell 1
            have r2 := KR.out.cell 2
            have r3 := KR.out.cell 3
            have r4 := KR.out.cell 4
            have s0 := KR.out.free 0
            have s1 := KR.out.free 1
            have s2 := KR.out.free 2
            have s3 := KR.out.free 3
            have s4 := KR.out.free 4
            obtain ⟨wz, hwz⟩ : ∃ wz, wz = (((((w9.setCell ⟨w.heap.size + 1, 0, none⟩ (.int .i64 (1))).setCell ⟨w.heap.size + 1, 1, none⟩ (.int .i64 (0))).setCell ⟨w.heap.size + 1, 2, none⟩ (.bool false)).setCell ⟨w.heap.size + 1, 3, none⟩ (.int .i64 (0))).setCell ⟨w.heap.size + 1, 4, none⟩ (.int .i64 (k8))) := ⟨_, rfl⟩
            have KZ := KR.out.set5 (.int .i64 (1)) (.int .i64 (0)) (.bool false) (.int .i64 (0)) (.int .i64 (k8))
            have OZ := Outside.set5 (w.heap.size + 1) w9 (.int .i64 (1)) (.int .i64 (0)) (.bool false) (.int .i64 (0)) (.int .i64 (k8))
            rw [← hwz] at KZ OZ
            have z0 := KZ.cell 0
            have z1 := KZ.cell 1
            have z2 := KZ.cell 2
            have z3 := KZ.cell 3
            have z4 := KZ.cell 4
            have HE := Lib.hid (And.intro (HO1.out.fresh OZ (by omega)) ((HR1.out.outside OZ (by omega)).mono (show _ ≤ c + 120 by omega)))
            clear KZ OZ
            go_wp2_with fail
            simp only [← hwz]
            clear hwz
            refine bodyPost_ret (v := .agg #[.int .i64 (1), .int .i64 (0), .bool false, .int .i64 (0), .int .i64 (k8)]) (by simp [results, Tryz.results52, go_sem, z0, z1, z2, z3, z4]) rfl ⟨⟨1, ⟨0, false, 0⟩, k8⟩, rfl, HE.out⟩
      · have e0 : (k == 0) = false := by simpa using k0
        have e1 : (k == 1) = false := by simpa using k1
        have k0_ := KA.out.cell 0
        go_wp2_with fail
        refine (odd_any g _ 40 _ HR1.out (by omega) (by omega)).mono ?_
        rintro e w8 ⟨b_, rfl, ho_, hr_⟩
        replace KA := Lib.hid (KA.out.outside ho_ (.inr (by omega)))
        replace KR := Lib.hid (KR.out.outside ho_ (.inr (by omega)))
        replace HO1 := Lib.hid (HO1.out.trans ho_)
        replace HR1 := Lib.hid hr_
        have hz_w8 := ho_.size

        clear ho_ hr_
        cases b_
        · have q0 := KA.out.cell 0
          have q1 := KA.out.cell 1
          have q2 := KA.out.cell 2
          have q3 := KA.out.cell 3
          have q4 := KA.out.cell 4
          have r0 := KR.out.cell 0
          have r1 := KR.out.cell 1
          have r2 := KR.out.cell 2
          have r3 := KR.out.cell 3
          have r4 := KR.out.cell 4
          have s0 := KR.out.free 0
          have s1 := KR.out.free 1
          have s2 := KR.out.free 2
          have s3 := KR.out.free 3
          have s4 := KR.out.free 4
          obtain ⟨wz, hwz⟩ : ∃ wz, wz = (((((w8.setCell ⟨w.heap.size + 1, 0, none⟩ (.int .i64 (k))).setCell ⟨w.heap.size + 1, 1, none⟩ (.int .i64 (0))).setCell ⟨w.heap.size + 1, 2, none⟩ (.bool false)).setCell ⟨w.heap.size + 1, 3, none⟩ (.int .i64 (0))).setCell ⟨w.heap.size + 1, 4, none⟩ (.int .i64 (0))) := ⟨_, rfl⟩
          have KZ := KR.out.set5 (.int .i64 (k)) (.int .i64 (0)) (.bool false) (.int .i64 (0)) (.int .i64 (0))
          have OZ := Outside.set5 (w.heap.size + 1) w8 (.int .i64 (k)) (.int .i64 (0)) (.bool false) (.int .i64 (0)) (.int .i64 (0))
          rw [← hwz] at KZ OZ
          have z0 := KZ.cell 0
          have z1 := KZ.cell 1
          have z2 := KZ.cell 2
          have z3 := KZ.cell 3
          have z4 := KZ.cell 4
          have HE := Lib.hid (And.intro (HO1.out.fresh OZ (by omega)) ((HR1.out.outside OZ (by omega)).mono (show _ ≤ c + 120 by omega)))
          clear KZ OZ
          go_wp2_with fail
          simp only [← hwz]
          clear hwz
          refine bodyPost_ret (v := .agg #[.int .i64 (k), .int .i64 (0), .bool false, .int .i64 (0), .int .i64 (0)]) (by simp [results, Tryz.results52, go_sem, z0, z1, z2, z3, z4]) rfl ⟨⟨k, ⟨0, false, 0⟩, 0⟩, rfl, HE.out⟩
        · have p4 := KA.out.cell 4
          have p5 := KA.out.free 4
          have pd4 := (KA.out.drew).cell 4
          have pd5 := (KA.out.drew).free 4
          go_upto_region 8 with fail
          go_cut [] (fun wx => ∃ k8 : Int, Hid (Blk gA (.cells #[.int .i64 (k), .int .i64 (0), .bool false, .int .i64 (0), .int .i64 k8] 41) wx ∧ Outside g (g + 1) w wx ∧ Rd g wx (c + 110) ∧ Blk (w.heap.size + 1) (.cells #[.int .i64 0, .int .i64 0, .bool false, .int .i64 0, .int .i64 0] 41) wx))
          case first =>
            go_region_with (first
              | (go_at_call 19; refine (pick_any g _ 120 _ (by repeat first | with_reducible exact HR1.out | with_reducible apply Rd.drew) (by omega)).mono ?_; rintro e9 w9 ⟨q9, rfl, i9_, o9_, r9_⟩; (have hz9 := o9_.size); (have ka9 := Blk.outside (KA.out.drew) o9_ (.inr (by omega))); (have p9 := ka9.cell 4); (have f9 := ka9.free 4); (have K9 := Lib.hid ka9); (have R9 := Lib.hid r9_); (have O9 := Lib.hid o9_.undrew); clear ka9 r9_ o9_ i9_))
            all_goals (
              go_wp2_with fail
              go_meet
              exact ⟨_, Lib.hid ⟨K9.out.put4 _, (HO1.out.trans O9.out).fresh (Outside.pute _ _ _ _) (by omega), (R9.out.outside (Outside.pute _ _ _ _) (by omega)).mono (by omega), (KR.out.outside O9.out (.inr (by omega))).outside (Outside.pute _ _ _ _) (by omega)⟩⟩)
          case rest =>
            obtain ⟨k8, H8⟩ := hcut
            obtain ⟨w9, rfl⟩ : ∃ x_, x_ = wc := ⟨_, rfl⟩
            obtain ⟨ka_, o_, r_, kr_⟩ := H8.out
            clear H8 KA KR
            have KA := Lib.hid ka_
            have KR := Lib.hid kr_
            replace HO1 := Lib.hid o_
            replace HR1 := Lib.hid r_
            have hz_9 := o_.size
            clear ka_ o_ r_ kr_ p4 p5 pd4 pd5
            have q0 := KA.out.cell 0
            have q1 := KA.out.cell 1
            have q2 := KA.out.cell 2
            have q3 := KA.out.cell 3
            have q4 := KA.out.cell 4
            have r0 := KR.out.cell 0
            have r1 := KR.out.cell 1
            have r2 := KR.out.cell 2
            have r3 := KR.out.cell 3
            have r4 := KR.out.cell 4
            have s0 := KR.out.free 0
            have s1 := KR.out.free 1
            have s2 := KR.out.free 2
            have s3 := KR.out.free 3
            have s4 := KR.out.free 4
            obtain ⟨wz, hwz⟩ : ∃ wz, wz = (((((w9.setCell ⟨w.heap.size + 1, 0, none⟩ (.int .i64 (k))).setCell ⟨w.heap.size + 1, 1, none⟩ (.int .i64 (0))).setCell ⟨w.heap.size + 1, 2, none⟩ (.bool false)).setCell ⟨w.heap.size + 1, 3, none⟩ (.int .i64 (0))).setCell ⟨w.heap.size + 1, 4, none⟩ (.int .i64 (k8))) := ⟨_, rfl⟩
            have KZ := KR.out.set5 (.int .i64 (k)) (.int .i64 (0)) (.bool false) (.int .i64 (0)) (.int .i64 (k8))
            have OZ := Outside.set5 (w.heap.size + 1) w9 (.int .i64 (k)) (.int .i64 (0)) (.bool false) (.int .i64 (0)) (.int .i64 (k8))
            rw [← hwz] at KZ OZ
            have z0 := KZ.cell 0
            have z1 := KZ.cell 1
            have z2 := KZ.cell 2
            have z3 := KZ.cell 3
            have z4 := KZ.cell 4
            have HE := Lib.hid (And.intro (HO1.out.fresh OZ (by omega)) ((HR1.out.outside OZ (by omega)).mono (show _ ≤ c + 120 by omega)))
            clear KZ OZ
            go_wp2_with fail
            simp only [← hwz]
            clear hwz
            refine bodyPost_ret (v := .agg #[.int .i64 (k), .int .i64 (0), .bool false, .int .i64 (0), .int .i64 (k8)]) (by simp [results, Tryz.results52, go_sem, z0, z1, z2, z3, z4]) rfl ⟨⟨k, ⟨0, false, 0⟩, k8⟩, rfl, HE.out⟩
end Go.Proofs.YtipbanhelhidnaaGreatDoor
