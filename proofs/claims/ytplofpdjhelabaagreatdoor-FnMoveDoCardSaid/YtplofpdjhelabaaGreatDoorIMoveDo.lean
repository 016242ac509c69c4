/-
  Texts of walks and plain lemmas for this seat; no condition.
-/
import Derived.Test.YtplofpdjhelabaaGreatDoorGI
import Derived.Test.YtplofpdjhelabaaGreatDoorErrAs
namespace Go.Proofs.YtplofpdjhelabaaGreatDoor
open Go.RowKit

/-- The type of errors lies in its variable. -/
def EnvX (w : World) : Prop := w.cell? ⟨0, 0, none⟩ = some (.iface 160 (.agg #[.pointer (some ⟨4, 69, none⟩)]))
theorem EnvX.below {w w' : World} (h : EnvX w) (hb : Below w.heap.size w w') : EnvX w' := (hb.cell (p := ⟨0, 0, none⟩) (World.block_lt_of_cell? w _ h)).trans h

set_option maxRecDepth 100000 in
set_option maxHeartbeats 3200000 in
theorem impl_MoveDo (ve : Value) (e : List Int) (m : Mv) (w : World) (hE : EnvK w) (hX : EnvX w) (hx : RdI w ve e) (hm : e.length ≤ 1048576) :
    Calls Tryz.prog 14 #[ve, aggM m] w (RetVB (MoveR w (moveV e m))) := by
  obtain ⟨w0, hw0⟩ : ∃ w0, w0 = w.alloc (.cells #[.int .i64 m.which, .bool m.back, .int .i64 m.at_] 37) := ⟨_, rfl⟩
  have hb0 : Below w.heap.size w w0 := by rw [hw0]; exact (Below.refl _ _).alloc (Nat.le_refl _) _
  have hs0 : w.heap.size ≤ w0.heap.size := hb0.size
  have K := Lib.hid (show Blk w.heap.size (.cells #[.int .i64 m.which, .bool m.back, .int .i64 m.at_] 37) w0 by rw [hw0]; exact Blk.new w _)
  have HB := Lib.hid hb0
  have HE := Lib.hid (hE.below hb0)
  have HXX := Lib.hid (hX.below hb0)
  have HX := Lib.hid (hx.below hb0)
  have HW0 := Lib.hid hw0
  obtain ⟨ea, ecap, rfl, _⟩ := hx.open
  have c0 := K.out.cell 0
  have c1 := K.out.cell 1
  have c2 := K.out.cell 2
  clear hx hE hX hb0 hw0
  cases hkv : katV e
  · have HR := Lib.hid (moveV_kat (m := m) hkv)
    go_enter Tryz.func14, Tryz.ntmps14
    go_wp2_with (rw [← HW0.out])
    refine (impl_KatValid _ _ _ e _ HX.out hm).mono ?_
    rintro e1 w1 ⟨rfl, rfl⟩
    rw [hkv]
    go_wp2
    go_ret2
    exact ⟨_, _, rfl, by rw [HR.out]; exact MoveR.nil HB.out⟩
  · have HKV := Lib.hid hkv
    go_enter Tryz.func14, Tryz.ntmps14
    go_wp2_with (rw [← HW0.out])
    refine (impl_KatValid _ _ _ e _ HX.out hm).mono ?_
    rintro e1 w1 ⟨rfl, rfl⟩
    rw [hkv]
    clear hkv
    go_wp2_with fail
    refine (do_any _ e m w0 HE.out HX.out HKV.out).mono ?_
    rintro e2 w2 ⟨v2, x2, rfl, hb2, hres⟩
    have HB2 := Lib.hid (HB.out.trans (hb2.mono hs0))
    have HX2 := Lib.hid (HXX.out.below hb2)
    have hs2 := hb2.size
    have hs2' := HB2.out.size
    clear hb2 c0 c1 c2 HXX
    cases hmv : moveV e m with
    | none =>
      rw [hmv] at hres
      obtain ⟨rfl, g, rfl, _⟩ := hres
      have HR := Lib.hid hmv
      clear hmv
      have hgA : (w2.alloc (.cells #[.pointer none] 72)).cell? ⟨0, 0, none⟩ = some (.iface 160 (.agg #[.pointer (some ⟨4, 69, none⟩)])) := by
        rw [World.cell?_alloc_lt _ _ ⟨0, 0, none⟩ (World.block_lt_of_cell? w2 _ HX2.out)]; exact HX2.out
      have htA : (w2.alloc (.cells #[.pointer none] 72)).cell? ⟨w2.heap.size, 0, none⟩ = some (.pointer none) := by simp
      have hfA : (w2.alloc (.cells #[.pointer none] 72)).frozen? ⟨w2.heap.size, 0, none⟩ = false := by simp
      have HH := Lib.hid (as_hit ⟨g, 0, none⟩ ⟨w2.heap.size, 0, none⟩ (.pointer none) _ hgA htA hfA)
      clear hgA htA hfA
      go_wp2_with fail
      refine HH.out.mono ?_
      rintro e3 w3 ⟨rfl, rfl⟩
      go_wp2
      go_ret2
      exact ⟨_, _, rfl, by rw [HR.out]; exact MoveR.nil (((((HB2.out.alloc hs2' _).alloc (by simp; omega) _).alloc (by simp; omega) _).alloc (by simp; omega) _).alloc (by simp; omega) _)⟩
    | some y =>
      rw [hmv] at hres
      obtain ⟨rfl, ho2⟩ := hres
      have HR := Lib.hid hmv
      have HO := Lib.hid ho2
      obtain ⟨ya, yc, rfl, _⟩ := Own.open ho2
      clear hmv ho2
      go_wp2_with (go_at_call 45; refine (as_nil _ _).mono ?_; rintro e3 w3 ⟨rfl, rfl⟩)
      go_ret2
      exact ⟨_, _, rfl, by rw [HR.out]; exact ⟨HB2.out.alloc hs2' _, rfl, Own.wide2 (HO.out.alloc _) hs0 (by simp)⟩⟩
end Go.Proofs.YtplofpdjhelabaaGreatDoor
