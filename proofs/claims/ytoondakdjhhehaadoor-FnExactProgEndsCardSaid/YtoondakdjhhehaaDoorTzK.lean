/-
  Texts of walks and plain lemmas for this seat; no condition.
-/
import Derived.Test.YtoondakdjhhehaaDoorCerP
namespace Go.Proofs.YtoondakdjhhehaaDoor
open Go.RowKit

/-- The library's table of trailing zeros, where it is read. -/
structure TabT (w : World) : Prop where
  t0 : w.cell? ⟨1, 0, none⟩ = some (.int .u8 0)
  t1 : w.cell? ⟨1, 1, none⟩ = some (.int .u8 1)
  t2 : w.cell? ⟨1, 3, none⟩ = some (.int .u8 2)
  t3 : w.cell? ⟨1, 7, none⟩ = some (.int .u8 3)
  t4 : w.cell? ⟨1, 15, none⟩ = some (.int .u8 4)
theorem TabT.below {w w' : World} (h : TabT w) (hb : Below w.heap.size w w') : TabT w' :=
  ⟨(hb.cell (World.block_lt_of_cell? w _ h.t0)).trans h.t0, (hb.cell (World.block_lt_of_cell? w _ h.t1)).trans h.t1, (hb.cell (World.block_lt_of_cell? w _ h.t2)).trans h.t2, (hb.cell (World.block_lt_of_cell? w _ h.t3)).trans h.t3, (hb.cell (World.block_lt_of_cell? w _ h.t4)).trans h.t4⟩

set_option maxHeartbeats 1600000 in
theorem tz64_any (x : Nat) (w : World) (hT : TabT w) (hs : sole x = true) :
    Calls Tryd.prog 75 #[.int .u64 x] w fun e w' => e = .returned (.int .i64 (tzN x)) ∧ w = w' := by
  obtain ⟨t0, t1, t2, t3, t4⟩ := hT
  rcases sole_iff.1 hs with rfl | rfl | rfl | rfl | rfl
  · have h1 : bits .and .u64 1 (IntKind.u64.wrap (-1)) = 1 := by decide
    have h2 : IntKind.u64.wrap 285870213051353865 = 285870213051353865 := by decide
    clear hs
    go_enter Tryd.func75, Tryd.ntmps75
    go_wp2
    go_ret
    exact ⟨rfl, rfl⟩
  · have h1 : bits .and .u64 2 (IntKind.u64.wrap (-2)) = 2 := by decide
    have h2 : IntKind.u64.wrap 571740426102707730 = 571740426102707730 := by decide
    clear hs
    go_enter Tryd.func75, Tryd.ntmps75
    go_wp2
    go_ret
    exact ⟨rfl, rfl⟩
  · have h1 : bits .and .u64 4 (IntKind.u64.wrap (-4)) = 4 := by decide
    have h2 : IntKind.u64.wrap 1143480852205415460 = 1143480852205415460 := by decide
    clear hs
    go_enter Tryd.func75, Tryd.ntmps75
    go_wp2
    go_ret
    exact ⟨rfl, rfl⟩
  · have h1 : bits .and .u64 8 (IntKind.u64.wrap (-8)) = 8 := by decide
    have h2 : IntKind.u64.wrap 2286961704410830920 = 2286961704410830920 := by decide
    clear hs
    go_enter Tryd.func75, Tryd.ntmps75
    go_wp2
    go_ret
    exact ⟨rfl, rfl⟩
  · have h1 : bits .and .u64 16 (IntKind.u64.wrap (-16)) = 16 := by decide
    have h2 : IntKind.u64.wrap 4573923408821661840 = 4573923408821661840 := by decide
    clear hs
    go_enter Tryd.func75, Tryd.ntmps75
    go_wp2
    go_ret
    exact ⟨rfl, rfl⟩
set_option maxHeartbeats 1600000 in
theorem tz_any (x : Nat) (w : World) (hT : TabT w) (hs : sole x = true) :
    Calls Tryd.prog 41 #[.int .u64 x] w fun e w' => e = .returned (.int .i64 (tzN x)) ∧ w = w' := by
  have h1 : IntKind.u64.wrap (x : Int) = x := by
    have : x < 32 := by rcases sole_iff.1 hs with rfl | rfl | rfl | rfl | rfl <;> decide
    simp [IntKind.wrap, IntKind.bits, IntKind.signed]; omega
  have HC := Lib.hid (tz64_any x w hT hs)
  clear hT hs
  go_enter Tryd.func41, Tryd.ntmps41
  go_wp2_with fail
  refine HC.out.mono ?_
  rintro e _ ⟨rfl, rfl⟩
  go_wp2
  go_ret
  exact ⟨rfl, rfl⟩
end Go.Proofs.YtoondakdjhhehaaDoor
