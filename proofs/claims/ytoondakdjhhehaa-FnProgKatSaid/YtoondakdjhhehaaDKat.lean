/-
  Texts of walks and plain lemmas for this seat; no condition.
-/
import Derived.Test.YtoondakdjhhehaaGB
import Derived.Test.YtoondakdjhhehaaGA
namespace Go.Proofs.Ytoondakdjhhehaa
open Go.RowKit

theorem eight_get (a b : Int) (ha : 0 ≤ a ∧ a ≤ 15) (hb : 0 ≤ b ∧ b ≤ 15) (z : Nat) (h : z < 8) :
    ∃ y : Int, (#[.int .i64 10, .int .i64 12, .int .i64 5, .int .i64 3, .int .i64 a, .int .i64 b, .int .i64 15, .int .i64 0] : Array Value)[z]? = some (.int .i64 y) ∧ 0 ≤ y ∧ y ≤ 15 := by
  match z, h with
  | 0, _ => exact ⟨_, rfl, by omega, by omega⟩
  | 1, _ => exact ⟨_, rfl, by omega, by omega⟩
  | 2, _ => exact ⟨_, rfl, by omega, by omega⟩
  | 3, _ => exact ⟨_, rfl, by omega, by omega⟩
  | 4, _ => exact ⟨_, rfl, by omega, by omega⟩
  | 5, _ => exact ⟨_, rfl, by omega, by omega⟩
  | 6, _ => exact ⟨_, rfl, by omega, by omega⟩
  | 7, _ => exact ⟨_, rfl, by omega, by omega⟩
theorem two_get (a b : Int) (z : Nat) (h : z < 2) : ∃ y : Int, (#[.int .i64 a, .int .i64 b] : Array Value)[z]? = some (.int .i64 y) ∧ (y = a ∨ y = b) := by
  match z, h with
  | 0, _ => exact ⟨_, rfl, .inl rfl⟩
  | 1, _ => exact ⟨_, rfl, .inr rfl⟩
theorem InR.lt {n x : Int} (h : InR n x) (hn : 0 < n) : 0 ≤ x ∧ x < n := by
  obtain ⟨h1, h2⟩ := h
  omega
theorem Outside.alloc {lo hi : Nat} {w w' : World} {o : Obj} (h : Outside lo hi (w.alloc o) w') : Outside lo hi w w' :=
  (Outside.of_below ((Below.refl w.heap.size w).alloc (Nat.le_refl _) o) (Nat.le_refl _)).trans h
theorem Rd.alloc {g c : Nat} {w : World} (h : Rd g w c) (o : Obj) : Rd g (w.alloc o) c := h.below ((Below.refl _ _).alloc (Nat.le_refl _) _) h.lt
theorem blk_hop {w w' : World} {o : Obj} {g : Nat} (ho : Outside g (g + 1) (w.alloc o) w') (hlt : g < w.heap.size) : Blk w.heap.size o w' :=
  Blk.outside (heap_alloc_new w o) ho (Or.inr hlt)

/-- A draw of a number: the reader has read on. -/
abbrev DrawnN (g c : Nat) (w : World) (P : Int → Prop) : Ending → World → Prop := RetI fun x w' => P x ∧ Outside g (g + 1) w w' ∧ Rd g w' c

set_option maxHeartbeats 1600000 in
theorem l20Test_any (g c : Nat) (n : Int) (w : World) (h : Rd g w c) (hc : c ≤ 100000000000) (hn : n ≤ 1000) :
    Calls Try.prog 27 #[.pointer (some ⟨g, 0, none⟩), .int .i64 n] w (DrawnN g (c + 4) w fun x => (n ≤ 0 → 0 ≤ x ∧ x ≤ 15) ∧ -1 ≤ x ∧ x ≤ 16) := by
  have rest : ∀ w1, Hid (Rd g w1 (c + 1)) → True := fun _ _ => trivial
  go_enter Try.func27, Try.ntmps27
  go_wp2_with fail
  refine (odd2_any g c n w h (by omega) (by omega)).mono ?_
  rintro e w1 ⟨b, rfl, hb0, ho1, hr1⟩
  have HO := Lib.hid ho1
  have HR := Lib.hid hr1
  clear ho1 hr1 h
  cases b
  · go_wp2_with fail
    refine (pick_any g _ _ _ HR.out (by omega)).mono ?_
    rintro e w2 ⟨x1, rfl, i1, ho, hr⟩
    obtain ⟨i1, i1'⟩ := i1.lt (by omega)
    replace HO := Lib.hid (HO.out.trans ho)
    replace HR := Lib.hid hr
    clear ho hr
    go_wp2_with fail
    refine (pick_any g _ _ _ HR.out (by omega)).mono ?_
    rintro e w3 ⟨x2, rfl, i2, ho, hr⟩
    obtain ⟨i2, i2'⟩ := i2.lt (by omega)
    replace HO := Lib.hid (HO.out.trans ho)
    replace HR := Lib.hid hr
    clear ho hr
    have hlt := HR.out.lt
    go_wp2_with fail
    refine (pick_any g _ _ _ (HR.out.alloc _) (by omega)).mono ?_
    rintro e w4 ⟨x3, rfl, i3, ho, hr⟩
    obtain ⟨i3, i3'⟩ := i3.lt (by omega)
    have K := blk_hop ho hlt
    replace HO := Lib.hid (HO.out.trans (Outside.alloc ho))
    replace HR := Lib.hid hr
    clear ho hr
    obtain ⟨z, rfl⟩ : ∃ z : Nat, x3 = z := ⟨x3.toNat, by omega⟩
    obtain ⟨y, hy, y1, y2⟩ := eight_get x1 x2 ⟨i1, by omega⟩ ⟨i2, by omega⟩ z (by omega)
    have hcell := (K.cell z).trans hy
    clear K hy
    go_wp2
    go_ret
    exact RetI.mk y rfl ⟨⟨fun _ => ⟨y1, y2⟩, by omega, by omega⟩, HO.out, HR.out⟩
  · have hlt := HR.out.lt
    have hb1 : 0 < n := hb0 rfl
    clear hb0
    go_wp2_with fail
    refine (pick_any g _ _ _ (HR.out.alloc _) (by omega)).mono ?_
    rintro e w4 ⟨x3, rfl, i3, ho, hr⟩
    obtain ⟨i3, i3'⟩ := i3.lt (by omega)
    have K := blk_hop ho hlt
    replace HO := Lib.hid (HO.out.trans (Outside.alloc ho))
    replace HR := Lib.hid (hr.mono (by omega : _ ≤ c + 4))
    clear ho hr
    obtain ⟨z, rfl⟩ : ∃ z : Nat, x3 = z := ⟨x3.toNat, by omega⟩
    obtain ⟨y, hy, y1⟩ := two_get (-1) 16 z (by omega)
    have hcell := (K.cell z).trans hy
    clear K hy
    go_wp2
    go_ret
    exact RetI.mk y rfl ⟨⟨fun hn0 => absurd hb1 (by omega), by omega, by omega⟩, HO.out, HR.out⟩
end Go.Proofs.Ytoondakdjhhehaa
