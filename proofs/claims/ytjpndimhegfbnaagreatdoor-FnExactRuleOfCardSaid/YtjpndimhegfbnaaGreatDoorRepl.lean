/-
  Texts of walks and plain lemmas for this seat; no condition.
-/
import Derived.Test.YtjpndimhegfbnaaGreatDoorJoin
import Derived.Test.YtjpndimhegfbnaaGreatDoorBlk
import Derived.Test.YtjpndimhegfbnaaGreatDoorL1In
import Derived.Deep.WholeRow
import Derived.Lib.FrozenHead2
namespace Go.Proofs.YtjpndimhegfbnaaGreatDoor
open Go.RowKit

/-- The letters x, y, z become a, b, c. -/
def replC (c : Nat) : Nat := if c = 120 then 97 else if c = 121 then 98 else if c = 122 then 99 else c

def six : List Value := [.string ⟨#[120]⟩, .string ⟨#[97]⟩, .string ⟨#[121]⟩, .string ⟨#[98]⟩, .string ⟨#[122]⟩, .string ⟨#[99]⟩]

theorem Blk.setAt {t : Nat} {e : TypeId} {w : World} {cs : List Value} (h : Blk t (.cells cs.toArray e) w) (k : Nat) (v : Value) : Blk t (.cells (cs.set k v).toArray e) (w.setCell ⟨t, k, none⟩ v) := by
  have h' : w.heap[t]? = _ := h
  show (w.setCell ⟨t, k, none⟩ v).heap[t]? = _
  simp [World.setCell, Array.getElem?_modify, h']
theorem wrap_u8 (k : Nat) (h : k < 256) : IntKind.u8.wrap (k : Int) = k := by
  simp [IntKind.wrap, IntKind.bits, IntKind.signed]
  omega
theorem zeros_len : Tryz.zeroCells211.toList.length = 256 := by kernel_rfl
/-- The first k numbers stand in their places. -/
def Upto (k : Nat) (cs : List Value) : Prop := cs.length = 256 ∧ ∀ j, j < k → cs[j]? = some (.int .u8 j)
theorem Upto.next {k : Nat} {cs : List Value} (h : Upto k cs) (hk : k < 256) : Upto (k + 1) (cs.set k (.int .u8 k)) := by
  refine ⟨by simpa using h.1, fun j hj => ?_⟩
  rcases Nat.lt_or_ge j k with h1 | h1
  · rw [List.getElem?_set_ne (by omega)]
    exact h.2 j h1
  · obtain rfl : j = k := by omega
    rw [List.getElem?_set_self (by rw [h.1]; exact hk)]
/-- The table of the letters. -/
def TabR (cs : List Value) : Prop := cs.length = 256 ∧ ∀ j, j < 256 → cs[j]? = some (.int .u8 (replC j : Nat))
theorem Upto.tab {cs : List Value} (h : Upto 256 cs) : TabR (((cs.set 122 (.int .u8 99)).set 121 (.int .u8 98)).set 120 (.int .u8 97)) := by
  refine ⟨by simpa using h.1, fun j hj => ?_⟩
  have hl := h.1
  simp only [List.getElem?_set, List.length_set]
  unfold replC
  split
  · subst_vars; simp [hl]
  · split
    · subst_vars; simp [hl]
    · split
      · subst_vars; simp [hl]
      · rw [h.2 j hj]
        rw [if_neg (by omega), if_neg (by omega), if_neg (by omega)]

set_option maxRecDepth 100000 in
set_option maxHeartbeats 1600000 in
theorem build_any (g o cap : Nat) (d0 d1 d2 : Value) (w : World) (hK : Blk g (.cells #[d0, d1, d2, .nilIface, .slice (some ⟨o, 0, none⟩) 6 cap] 190) w) (hS : ∀ j, j < 6 → w.cell? ⟨o, j, none⟩ = six[j]?) :
    Calls Tryz.prog 142 #[.pointer (some ⟨g, 0, none⟩)] w (RetV fun v w' => ∃ cs, v = .iface 212 (.pointer (some ⟨w.heap.size, 0, none⟩)) ∧ Below w.heap.size w w' ∧ Blk w.heap.size (.cells cs.toArray 211) w' ∧ TabR cs) := by
  have hgl := hK.lt
  have hol : o < w.heap.size := World.block_lt_of_cell? w _ ((hS 0 (by omega)).trans rfl)
  have hst := run_storeCells_new (P := Tryz.prog) w 211 Tryz.zeroCells211 Tryz.zeroCells211 (by kernel_rfl) rfl (by kernel_rfl)
  have c4 := hK.cell 4
  have s0 := hS 0 (by omega)
  have s1 := hS 1 (by omega)
  have s2 := hS 2 (by omega)
  have s3 := hS 3 (by omega)
  have s4 := hS 4 (by omega)
  have s5 := hS 5 (by omega)
  simp only [six, List.getElem?_cons_zero, List.getElem?_cons_succ] at s0 s1 s2 s3 s4 s5
  clear hS
  go_enter Tryz.func142, Tryz.ntmps142
  go_wp2
  go_loop [4, 5] (fun b i => b = .bool true ∧ (i = .int .i64 0 ∨ i = .int .i64 2 ∨ i = .int .i64 4 ∨ i = .int .i64 6)) (fun _ i => 6 - (intOf i).toNat)
  case atStart => exact ⟨rfl, .inl rfl⟩
  case round =>
    obtain ⟨rfl, rfl | rfl | rfl | rfl⟩ := hrel
    · go_wp2
      go_round
      case rel => exact ⟨rfl, .inr (.inl rfl)⟩
      case measure => simp [intOf]
    · go_wp2
      go_round
      case rel => exact ⟨rfl, .inr (.inr (.inl rfl))⟩
      case measure => simp [intOf]
    · go_wp2
      go_round
      case rel => exact ⟨rfl, .inr (.inr (.inr rfl))⟩
      case measure => simp [intOf]
    · go_wp2
      go_loopw [61] (fun i wr => ∃ (k : Nat) (cs : List Value), k ≤ 256 ∧ i = .int .i64 k ∧ Hid (Upto k cs ∧ Blk w.heap.size (.cells cs.toArray 211) wr ∧ Below w.heap.size w wr)) (fun i _ => 256 - (intOf i).toNat)
      case atStart =>
        refine ⟨0, Tryz.zeroCells211.toList, by omega, rfl, Lib.hid ⟨⟨zeros_len, fun j hj => by omega⟩, ?_, (Below.refl _ _).alloc (Nat.le_refl _) _⟩⟩
        exact Blk.new w _
      case round =>
        obtain ⟨k, cs, hk, rfl, HI⟩ := hrel
        by_cases hlt : k < 256
        · have hu := wrap_u8 k hlt
          have hk1 : (k : Int) < 256 := by omega
          have hcell : ∃ x, wr.cell? ⟨w.heap.size, k, none⟩ = some x := by
            have h := HI.out.2.1.cell k
            have hl : k < cs.length := by rw [HI.out.1.1]; exact hlt
            exact ⟨cs[k], by rw [h]; simp [hl]⟩
          obtain ⟨x, hcell⟩ := hcell
          have hfz := HI.out.2.1.free k
          go_wp2
          go_roundw
          case rel => exact ⟨k + 1, cs.set k (.int .u8 k), by omega, by go_num, Lib.hid ⟨HI.out.1.next hlt, HI.out.2.1.setAt k _, HI.out.2.2.setCell (p := ⟨w.heap.size, k, none⟩) (Nat.le_refl _) _⟩⟩
          case measure => simp [intOf]; omega
        · obtain rfl : k = 256 := by omega
          obtain ⟨hi1, hi2, hi3⟩ := HI.out
          have HR := Lib.hid (And.intro hi1 hi3)
          have s0' := (hi3.cell (p := ⟨o, 0, none⟩) hol).trans s0
          have s1' := (hi3.cell (p := ⟨o, 1, none⟩) hol).trans s1
          have s2' := (hi3.cell (p := ⟨o, 2, none⟩) hol).trans s2
          have s3' := (hi3.cell (p := ⟨o, 3, none⟩) hol).trans s3
          have s4' := (hi3.cell (p := ⟨o, 4, none⟩) hol).trans s4
          have s5' := (hi3.cell (p := ⟨o, 5, none⟩) hol).trans s5
          have hne : o ≠ w.heap.size := by omega
          have hne2 : w.heap.size ≠ o := by omega
          clear s0 s1 s2 s3 s4 s5 c4 hst
          have h122 : ∃ x, wr.cell? ⟨w.heap.size, 122, none⟩ = some x := ⟨_, (hi2.cell 122).trans (by simpa using hi1.2 122 (by omega))⟩
          have h121 : ∃ x, wr.cell? ⟨w.heap.size, 121, none⟩ = some x := ⟨_, (hi2.cell 121).trans (by simpa using hi1.2 121 (by omega))⟩
          have h120 : ∃ x, wr.cell? ⟨w.heap.size, 120, none⟩ = some x := ⟨_, (hi2.cell 120).trans (by simpa using hi1.2 120 (by omega))⟩
          obtain ⟨x2, h122⟩ := h122
          obtain ⟨x1, h121⟩ := h121
          obtain ⟨x0, h120⟩ := h120
          have g2 := hi2.free 122
          have g1 := hi2.free 121
          have g0 := hi2.free 120
          have HT := Lib.hid (And.intro hi1.tab (And.intro (((hi2.setAt 122 (.int .u8 99)).setAt 121 (.int .u8 98)).setAt 120 (.int .u8 97)) (((hi3.setCell (p := ⟨w.heap.size, 122, none⟩) (Nat.le_refl _) (.int .u8 99)).setCell (p := ⟨w.heap.size, 121, none⟩) (Nat.le_refl _) (.int .u8 98)).setCell (p := ⟨w.heap.size, 120, none⟩) (Nat.le_refl _) (.int .u8 97))))
          have b122 : ∀ hh : 0 < (ByteArray.mk #[122]).size, ((ByteArray.mk #[122])[0]'hh).toNat = 122 := fun _ => rfl
          have b121 : ∀ hh : 0 < (ByteArray.mk #[121]).size, ((ByteArray.mk #[121])[0]'hh).toNat = 121 := fun _ => rfl
          have b120 : ∀ hh : 0 < (ByteArray.mk #[120]).size, ((ByteArray.mk #[120])[0]'hh).toNat = 120 := fun _ => rfl
          have b99 : ∀ hh : 0 < (ByteArray.mk #[99]).size, ((ByteArray.mk #[99])[0]'hh).toNat = 99 := fun _ => rfl
          have b98 : ∀ hh : 0 < (ByteArray.mk #[98]).size, ((ByteArray.mk #[98])[0]'hh).toNat = 98 := fun _ => rfl
          have b97 : ∀ hh : 0 < (ByteArray.mk #[97]).size, ((ByteArray.mk #[97])[0]'hh).toNat = 97 := fun _ => rfl
          clear hi1 hi2 hi3 HI HR
          go_wp2
          go_loopw [8] (fun i wx => (i = .int .i64 4 ∧ wx = wr) ∨ (i = .int .i64 2 ∧ wx = (wr.setCell ⟨w.heap.size, 122, none⟩ (.int .u8 99))) ∨ (i = .int .i64 0 ∧ wx = ((wr.setCell ⟨w.heap.size, 122, none⟩ (.int .u8 99)).setCell ⟨w.heap.size, 121, none⟩ (.int .u8 98))) ∨ (i = .int .i64 (-2) ∧ wx = (((wr.setCell ⟨w.heap.size, 122, none⟩ (.int .u8 99)).setCell ⟨w.heap.size, 121, none⟩ (.int .u8 98)).setCell ⟨w.heap.size, 120, none⟩ (.int .u8 97)))) (fun i _ => (intOf i + 2).toNat)
          case atStart => exact .inl ⟨rfl, rfl⟩
          case round =>
            rcases hrel with ⟨rfl, rfl⟩ | ⟨rfl, rfl⟩ | ⟨rfl, rfl⟩ | ⟨rfl, rfl⟩
            · go_wp2
              go_roundw
              case rel => simp
              case measure => simp [intOf]
            · go_wp2
              go_roundw
              case rel => simp
              case measure => simp [intOf]
            · go_wp2
              go_roundw
              case rel => simp
              case measure => simp [intOf]
            · go_wp2
              go_ret
              exact RetV.mk _ rfl ⟨_, rfl, HT.out.2.2, HT.out.2.1, HT.out.1⟩
end Go.Proofs.YtjpndimhegfbnaaGreatDoor
