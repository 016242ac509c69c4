/-
  Texts of walks and plain lemmas for this seat; no condition.
-/
import Derived.Test.YtjpndimhegfbnaaGreatDoorRepl
import Derived.Tactics
import Derived.Tactics2
import Derived.Defers
import Derived.Laws.Pointers
import Derived.Laws.LoneSync
import Derived.RegionTactic
import Derived.RegionCalls
import Derived.Laws.NewBlocks
namespace Go.Proofs.YtjpndimhegfbnaaGreatDoor
open Go.RowKit

theorem disable (w : World) : (callFunc 166 #[]).run Tryz.prog w = .ok (.value (.tuple #[])) w := run_call_mark0 Tryz.func166 (by kernel_rfl) (by kernel_rfl) (by kernel_rfl) .disable (by kernel_rfl) w
theorem enable (w : World) : (callFunc 168 #[]).run Tryz.prog w = .ok (.value (.tuple #[])) w := run_call_mark0 Tryz.func168 (by kernel_rfl) (by kernel_rfl) (by kernel_rfl) .enable (by kernel_rfl) w
theorem acquire (a : Addr) (w : World) : (callFunc 169 #[.pointer (some a)]).run Tryz.prog w = .ok (.value (.tuple #[])) w := run_call_marked Tryz.func169 (by kernel_rfl) (by kernel_rfl) (by kernel_rfl) .acquire (by kernel_rfl) a w
theorem releaseMerge (a : Addr) (w : World) : (callFunc 171 #[.pointer (some a)]).run Tryz.prog w = .ok (.value (.tuple #[])) w := run_call_marked Tryz.func171 (by kernel_rfl) (by kernel_rfl) (by kernel_rfl) .releaseMerge (by kernel_rfl) a w

theorem store_deferred (a : Addr) (x : Value) (u : FrameMode) (w : World) (hc : w.cell? a = some x) (hz : w.frozen? a = false) :
    CallsD Tryz.prog 150 #[.pointer (some a), .bool true] u w fun e u' w' => u' = u ∧ (e = .returned (.tuple #[]) ∧ w' = w.drew.setCell a (.int .u32 1)) := by
  have hc' : w.drew.cell? a = some x := by go_simp
  have hz' : w.drew.frozen? a = false := by go_simp
  have hst := run_call_store (P := Tryz.prog) Tryz.func159 (by kernel_rfl) (by kernel_rfl) (by kernel_rfl) (by kernel_rfl) (k := .u32) (y := 1) hc' hz'
  go_enter_d Tryz.func150, Tryz.ntmps150
  go_wp2
  go_region_calls
  all_goals (go_end0; exact ⟨rfl, rfl⟩)

set_option maxRecDepth 100000 in
theorem unlock_deferred (a : Addr) (u : FrameMode) (w : World) (hc : w.cell? a = some (.int .i32 1)) (hz : w.frozen? a = false) :
    CallsD Tryz.prog 149 #[.pointer (some a)] u w fun e u' w' => u' = u ∧ (e = .returned (.tuple #[]) ∧ w' = w.setCell a (.int .i32 0)) := by
  have hd := disable
  have he := enable
  have hr := releaseMerge
  have hadd := run_call_add (P := Tryz.prog) Tryz.func172 (by kernel_rfl) (by kernel_rfl) (by kernel_rfl) .i32 (by kernel_rfl) (y := -1) (s := 0) hc hz (by simp [go_sem]; rfl)
  have hcv := run_convert_to_unsafe (P := Tryz.prog) (src := 233) (dst := 133) Tryz.underlying233 Tryz.underlying133 (by kernel_rfl) hc
  go_enter_d Tryz.func149, Tryz.ntmps149
  go_wp2
  go_end0
  go_wp2
  go_end0
  exact ⟨rfl, rfl⟩

set_option maxRecDepth 100000 in
theorem lock_free (a : Addr) (w : World) (hc : w.cell? a = some (.int .i32 0)) (hz : w.frozen? a = false) :
    Calls Tryz.prog 148 #[.pointer (some a)] w fun e w' => e = .returned (.tuple #[]) ∧ w' = w.setCell a (.int .i32 1) := by
  have hd := disable
  have he := enable
  have ha := acquire
  have hcas := run_call_cas_hit (P := Tryz.prog) Tryz.func167 (by kernel_rfl) (by kernel_rfl) (by kernel_rfl) .i32 (by kernel_rfl) (y := 1) hc hz
  have hc' : (w.setCell a (.int .i32 1)).cell? a = some (.int .i32 1) := World.cell?_setCell_same w a _ hc
  have hcv := run_convert_to_unsafe (P := Tryz.prog) (src := 233) (dst := 133) Tryz.underlying233 Tryz.underlying133 (by kernel_rfl) hc'
  go_enter Tryz.func148, Tryz.ntmps148
  go_wp2
  first | go_end0 | (simp only [Exit.inBlock, Exit.then]; refine bodyPost_ret (results_none rfl _ _ _) rfl ?_) | refine bodyPost_ret (results_none rfl _ _ _) rfl ?_
  go_wp2
  go_end0
  exact ⟨rfl, rfl⟩

/-- The replacer is built: behind 'buildOnce'. -/
def Built (g : Nat) (d0 d1 d2 : Value) (w w' : World) : Prop :=
  ∃ (t : Nat) (cs : List Value), w.heap.size ≤ t ∧ Blk g (.cells #[d0, d1, d2, .iface 212 (.pointer (some ⟨t, 0, none⟩)), .slice none 0 0] 190) w' ∧
    Blk t (.cells cs.toArray 211) w' ∧ TabR cs ∧ Outside g (g + 1) w w'

theorem Blk.set34 {g : Nat} {e : TypeId} {w : World} {x0 x1 x2 x3 x4 : Value} (h : Blk g (.cells #[x0, x1, x2, x3, x4] e (0, 0)) w) (c d : Value) :
    Blk g (.cells #[x0, x1, x2, c, d] e (0, 0)) ((w.setCell ⟨g, 3, none⟩ c).setCell ⟨g, 4, none⟩ d) := by
  have h' : w.heap[g]? = _ := h
  show ((w.setCell ⟨g, 3, none⟩ c).setCell ⟨g, 4, none⟩ d).heap[g]? = _
  simp [World.setCell, Array.getElem?_modify, h']
theorem Outside.set34 (g : Nat) (w : World) (c d : Value) : Outside g (g + 1) w ((w.setCell ⟨g, 3, none⟩ c).setCell ⟨g, 4, none⟩ d) :=
  ((Outside.refl _ _ _).setCell (p := ⟨g, 3, none⟩) (Nat.le_refl _) (Nat.lt_succ_self _) _).setCell (p := ⟨g, 4, none⟩) (Nat.le_refl _) (Nat.lt_succ_self _) _

set_option maxRecDepth 100000 in
set_option maxHeartbeats 1600000 in
theorem buildOnce_any (g o cap : Nat) (d0 d1 d2 : Value) (w : World) (hK : Blk g (.cells #[d0, d1, d2, .nilIface, .slice (some ⟨o, 0, none⟩) 6 cap] 190) w) (hS : ∀ j, j < 6 → w.cell? ⟨o, j, none⟩ = six[j]?) :
    Calls Tryz.prog 132 #[.pointer (some ⟨g, 0, none⟩)] w fun e w' => e = .returned (.tuple #[]) ∧ Built g d0 d1 d2 w w' := by
  have hlt := hK.lt
  go_enter Tryz.func132, Tryz.ntmps132
  go_wp2_with fail
  refine (build_any g o cap d0 d1 d2 w hK hS).mono ?_
  rintro e w1 ⟨v, rfl, cs, rfl, hb, ht, hcs⟩
  have hK1 := hK.below hb hlt
  have c3 := hK1.cell 3
  have c4 := hK1.cell 4
  have f3 := hK1.free 3
  have f4 := hK1.free 4
  obtain ⟨wz, hwz⟩ : ∃ wz, wz = ((w1.setCell ⟨g, 3, none⟩ (.iface 212 (.pointer (some ⟨w.heap.size, 0, none⟩)))).setCell ⟨g, 4, none⟩ (.slice none 0 0)) := ⟨_, rfl⟩
  have HZ := Lib.hid (hK1.set34 (.iface 212 (.pointer (some ⟨w.heap.size, 0, none⟩))) (.slice none 0 0))
  have HO := Lib.hid (Outside.set34 g w1 (.iface 212 (.pointer (some ⟨w.heap.size, 0, none⟩))) (.slice none 0 0))
  rw [← hwz] at HZ HO
  have HT := Lib.hid (ht.outside HO.out (.inr (by omega)))
  have HB := Lib.hid hb
  have HC := Lib.hid hcs
  clear hb ht hcs hK hK1 hS
  go_wp2
  simp only [← hwz]
  go_end0
  exact ⟨rfl, _, cs, Nat.le_refl _, HZ.out, HT.out, HC.out, (Outside.of_below HB.out (Nat.le_refl _)).trans HO.out⟩
end Go.Proofs.YtjpndimhegfbnaaGreatDoor
