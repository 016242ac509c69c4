/-
  Texts of walks and plain lemmas for this seat; no condition.
-/
import Derived.Test.YtadihfjmgckdaaaGreatDoorIRows3
import Derived.Test.YtadihfjmgckdaaaGreatDoorGA
namespace Go.Proofs.YtadihfjmgckdaaaGreatDoor
open Go.RowKit

theorem bit_and {set k : Nat} (hs : set < 4611686018427387904) : (bits .and .i64 ((set : Int) / 2 ^ k) 1 == 1) = set.testBit k := by
  have h1 : ((set : Int) / 2 ^ k) = ((set / 2 ^ k : Nat) : Int) := by push_cast; rfl
  have h2 : set / 2 ^ k < 4611686018427387904 := Nat.lt_of_le_of_lt (Nat.div_le_self _ _) hs
  rw [h1, show (1 : Int) = ((1 : Nat) : Int) from rfl, bits64_and _ _ h2 (by omega), Nat.testBit_eq_decide_div_mod_eq, Nat.and_one_is_mod]
  rw [Bool.eq_iff_iff]
  simp
  omega
theorem imgT_small {rows : List Int} (hr : ∀ s (h : s < rows.length), 0 ≤ rows[s] ∧ rows[s].toNat < 2 ^ 20) (set k : Nat) : imgT rows set k < 1048576 := imgT_lt (n := 20) (fun s h => (hr s h).2) set k
theorem image_any (lo hi : Nat) (v : Value) (rows : List Int) (set : Nat) (w : World) (hx : SlI lo hi w v rows) (hm : rows.length ≤ 60) (hs : set < 1099511627776) (hr : ∀ s (h : s < rows.length), 0 ≤ rows[s] ∧ rows[s].toNat < 2 ^ 20) :
    Calls Tryz.prog 142 #[v, .int .i64 (set : Nat)] w fun e w' => e = .returned (.int .i64 ((imgT rows set rows.length : Nat) : Int)) ∧ w = w' := by
  have HR := Lib.hid hr
  obtain ⟨a, cap, rfl, hcap, hcm, hc⟩ := hx.open
  clear hx hcm hcap hr
  go_enter Tryz.func142, Tryz.ntmps142
  go_wp2
  go_loop [5, 10] (fun o i => ∃ k : Nat, k ≤ rows.length ∧ i = .int .i64 k ∧ o = .int .i64 ((imgT rows set k : Nat) : Int)) (fun _ i => rows.length - (intOf i).toNat)
  case atStart => exact ⟨0, by omega, rfl, rfl⟩
  case round =>
    obtain ⟨k, hk, rfl, rfl⟩ := hrel
    by_cases hlt : k < rows.length
    · obtain ⟨b, off, rfl, _, _, _, hcell⟩ := hc k hlt
      clear hc
      obtain ⟨x, hx⟩ : ∃ x : Nat, rows[k] = x := ⟨rows[k].toNat, by have := (HR.out k hlt).1; omega⟩
      have hxs := (HR.out k hlt).2
      rw [hx, Int.toNat_natCast] at hxs
      rw [hx] at hcell
      have hg : (rows.getD k 0).toNat = x := by simp [List.getD, List.getElem?_eq_getElem hlt, hx]
      cases hb : set.testBit k
      · have hbb := (bit_and (k := k) (show set < 4611686018427387904 by omega)).trans hb
        have HN : Hid (imgT rows set (k + 1) = imgT rows set k) := Lib.hid (by rw [imgT, hb]; simp)
        clear hb hx hg
        go_wp2
        go_round
        case rel => exact ⟨k + 1, by omega, by go_num, by rw [HN.out]⟩
        case measure => simp [intOf]; omega
      · have hbb := (bit_and (k := k) (show set < 4611686018427387904 by omega)).trans hb
        have HN : Hid (imgT rows set (k + 1) = imgT rows set k ||| x) := Lib.hid (by rw [imgT, hb, hg]; simp)
        have HO := Lib.hid (bits64_or (imgT rows set k) x (by have := imgT_small HR.out set k; omega) (by omega))
        clear hb hx hg
        go_wp2
        go_round
        case rel => exact ⟨k + 1, by omega, by go_num, by rw [HN.out, HO.out]⟩
        case measure => simp [intOf]; omega
    · obtain rfl : k = rows.length := by omega
      go_wp2
      go_ret
      exact ⟨rfl, rfl⟩
/-- Valid rows are small. -/
theorem rowsB_small {n : Int} {rows : List Int} (h : rowsB n rows = true) : rows.length = n.toNat ∧ n.toNat ≤ 5 ∧ ∀ s (hs : s < rows.length), 0 ≤ rows[s] ∧ rows[s].toNat < 2 ^ 20 := by
  have h0 := h
  simp only [rowsB, Bool.and_eq_true, decide_eq_true_eq, List.all_eq_true, inB] at h
  obtain ⟨⟨⟨h1, h1'⟩, h2⟩, h3⟩ := h
  refine ⟨by omega, by omega, fun s hs => ⟨?_, Nat.lt_of_lt_of_le (rowsB_lt h0 s hs) (Nat.pow_le_pow_right (by omega) (by omega))⟩⟩
  have := h3 _ (List.getElem_mem hs)
  simp only [isSetB, Bool.and_eq_true, decide_eq_true_eq] at this
  exact this.1
/-- Rows are handed back, new. -/
abbrev RowsNew (w : World) (xs : List Int) : Ending → World → Prop := RetV fun v w' => OwnI w.heap.size w'.heap.size 3 w' v xs ∧ Below w.heap.size w w'
theorem rowsR_valid {n : Int} (hn : inB n 1 5 = true) (R : Nat → Nat → Prop) : rowsB n (rowsR n.toNat R) = true := by
  have h := hn
  simp only [inB, Bool.and_eq_true, decide_eq_true_eq] at h
  simp only [rowsB, hn, Bool.true_and, Bool.and_eq_true, decide_eq_true_eq, List.all_eq_true]
  refine ⟨by rw [rowsR_length]; omega, fun x hx => ?_⟩
  obtain ⟨s, hs, rfl⟩ := List.getElem_of_mem hx
  rw [rowsR_get]
  have := bitsN_lt (R s) n.toNat
  simp only [isSetB, Bool.and_eq_true, decide_eq_true_eq]
  refine ⟨by omega, ?_⟩
  have h2 : ((bitsN n.toNat (R s) : Nat) : Int) < ((2 ^ n.toNat : Nat) : Int) := by exact_mod_cast this
  push_cast at h2
  exact h2
end Go.Proofs.YtadihfjmgckdaaaGreatDoor
