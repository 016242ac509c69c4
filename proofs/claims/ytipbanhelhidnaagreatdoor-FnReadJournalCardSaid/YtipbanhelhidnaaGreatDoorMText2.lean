/-
  Texts of walks and plain lemmas for this seat; no condition.
-/
import Derived.Test.YtipbanhelhidnaaGreatDoorMText
import Derived.Test.YtipbanhelhidnaaGreatDoorGA
import Derived.Deep.RegionHeld3
namespace Go.Proofs.YtipbanhelhidnaaGreatDoor
open Go.RowKit

theorem ofNat_cast (a : Nat) : UInt8.ofNat ((48 : Int) + (a : Int)).toNat = UInt8.ofNat (48 + a) := by
  congr 1

set_option maxRecDepth 100000 in
set_option maxHeartbeats 1600000 in
theorem l9Number_any (n : Nat) (w : World) (h : n < 100) :
    Calls Tryz.prog 110 #[.int .i64 n] w fun e w' => e = .returned (.string ⟨(dig2 n).toArray⟩) ∧ Below w.heap.size w w' := by
  by_cases h1 : n < 10
  · have HT := Lib.hid (show dig2 n = [UInt8.ofNat ((48 : Int) + (n : Int)).toNat] by rw [ofNat_cast]; simp [dig2, h1])
    have hcv := conv_lit (P := Tryz.prog) 22 9 5 Tryz.underlying22 Tryz.underlying5 Tryz.underlying9 w [48 + (n : Int)]
    simp only [List.length_cons, List.length_nil, List.map_cons, List.map_nil, Nat.zero_add] at hcv
    go_enter Tryz.func110, Tryz.ntmps110
    go_wp2
    go_ret
    exact ⟨ret_str HT.out.symm, (Below.refl _ _).alloc (Nat.le_refl _) _⟩
  · obtain ⟨a, ha, ha2⟩ : ∃ a : Nat, (n : Int) / 10 = a ∧ n / 10 = a := ⟨n / 10, by omega, rfl⟩
    obtain ⟨b, hb, hb2⟩ : ∃ b : Nat, (n : Int) % 10 = b ∧ n % 10 = b := ⟨n % 10, by omega, rfl⟩
    have ba : a ≤ 9 := by omega
    have bb : b ≤ 9 := by omega
    have HT := Lib.hid (show dig2 n = [UInt8.ofNat ((48 : Int) + (a : Int)).toNat, UInt8.ofNat ((48 : Int) + (b : Int)).toNat] by rw [ofNat_cast, ofNat_cast]; simp [dig2, h1, ha2, hb2])
    have hcv := conv_lit (P := Tryz.prog) 22 9 5 Tryz.underlying22 Tryz.underlying5 Tryz.underlying9 w [48 + (a : Int), 48 + (b : Int)]
    simp only [List.length_cons, List.length_nil, List.map_cons, List.map_nil, Nat.zero_add, Nat.reduceAdd] at hcv
    clear ha2 hb2
    go_enter Tryz.func110, Tryz.ntmps110
    go_wp2
    go_ret
    exact ⟨ret_str HT.out.symm, (Below.refl _ _).alloc (Nat.le_refl _) _⟩

/-- What a move's box keeps while a text is made. -/
def MvS (w : World) (p q : Int) (w' : World) : Prop := w'.cell? ⟨w.heap.size, 0, none⟩ = some (.int .i64 p) ∧ w'.cell? ⟨w.heap.size, 2, none⟩ = some (.int .i64 q) ∧ w.heap.size < w'.heap.size ∧ Below w.heap.size w w'
theorem MvS.start (w : World) (p q : Int) (b : Bool) (e : TypeId) : MvS w p q (w.alloc (.cells #[.int .i64 p, .bool b, .int .i64 q] e)).drew := by
  refine ⟨?_, ?_, ?_, ((Below.refl _ _).alloc (Nat.le_refl _) _).drew⟩
  · exact (Blk.new w _).cell 0
  · exact (Blk.new w _).cell 2
  · simp
theorem MvS.step {w x w1 : World} {p q : Int} (h : x.cell? ⟨w.heap.size, 0, none⟩ = some (.int .i64 p) ∧ x.cell? ⟨w.heap.size, 2, none⟩ = some (.int .i64 q) ∧ w.heap.size < x.heap.size ∧ Below w.heap.size w x) (hb : Below x.heap.size x w1) : MvS w p q w1 :=
  ⟨(hb.cell h.2.2.1).trans h.1, (hb.cell h.2.2.1).trans h.2.1, Nat.lt_of_lt_of_le h.2.2.1 hb.size, h.2.2.2.trans (hb.mono (Nat.le_of_lt h.2.2.1))⟩

theorem MvS.bel {w x : World} {p q : Int} (h : x.cell? ⟨w.heap.size, 0, none⟩ = some (.int .i64 p) ∧ x.cell? ⟨w.heap.size, 2, none⟩ = some (.int .i64 q) ∧ w.heap.size < x.heap.size ∧ Below w.heap.size w x) : Below w.heap.size w x := h.2.2.2

set_option maxRecDepth 100000 in
set_option maxHeartbeats 3200000 in
theorem spec_MoveText (m : Mv) (w : World) :
    Calls Tryz.prog 76 #[.agg #[.int .i64 m.which, .bool m.back, .int .i64 m.at_]] w fun e w' => e = .returned (.string ⟨(mvText m).toArray⟩) ∧ Below w.heap.size w w' := by
  obtain ⟨p, b, q⟩ := m
  have hb : Hid (∀ o, Below w.heap.size w (w.alloc o)) := Lib.hid fun o => (Below.refl _ _).alloc (Nat.le_refl _) _
  cases h1 : inB p 0 20
  · have HT := Lib.hid (show mvText ⟨p, b, q⟩ = [] by simp [inB] at h1; simp [mvText, mvOk]; omega)
    go_enter Tryz.func76, Tryz.ntmps76
    go_wp2_with (go_at_call 55; refine (l1In_any _ _ _ _).mono ?_; rintro e w' ⟨rfl, rfl⟩)
    go_ret
    exact ⟨ret_str (a := []) (by rw [HT.out]), hb.out _⟩
  · cases h2 : inB q 0 39
    · have HT := Lib.hid (show mvText ⟨p, b, q⟩ = [] by simp [inB] at h2; simp [mvText, mvOk]; omega)
      go_enter Tryz.func76, Tryz.ntmps76
      go_wp2_with (go_at_call 55; refine (l1In_any _ _ _ _).mono ?_; rintro e w' ⟨rfl, rfl⟩)
      go_ret
      exact ⟨ret_str (a := []) (by rw [HT.out]), hb.out _⟩
    · have g1 : 0 ≤ p ∧ p ≤ 20 := by simpa [inB] using h1
      have g2 : 0 ≤ q ∧ q ≤ 39 := by simpa [inB] using h2
      obtain ⟨p, rfl⟩ : ∃ n : Nat, p = n := ⟨p.toNat, by omega⟩
      obtain ⟨q, rfl⟩ : ∃ n : Nat, q = n := ⟨q.toNat, by omega⟩
      have hp : p < 100 := by omega
      have hq : q < 100 := by omega
      have l1 := dig2_len p
      have l2 := dig2_len q
      have HT := Lib.hid (show mvText ⟨p, b, q⟩ = (if b then [45] else [43]) ++ dig2 p ++ [64] ++ dig2 q by simp [mvText, mvOk]; omega)
      have b1 : ¬ 9223372036854775807 < 1 + (dig2 p).length := by omega
      have b2 : ¬ 9223372036854775807 < 1 + (dig2 p).length + 1 := by omega
      have b3 : ¬ 9223372036854775807 < 1 + (dig2 p).length + 1 + (dig2 q).length := by omega
      clear g1 g2
      cases b
      · go_enter Tryz.func76, Tryz.ntmps76
        go_wp2_with (first | (go_at_call 55; refine (l1In_any _ _ _ _).mono ?_; rintro e w' ⟨rfl, rfl⟩))
        go_region_held3 (fun w' => w'.cell? ⟨w.heap.size, 0, none⟩ = some (.int .i64 p) ∧ w'.cell? ⟨w.heap.size, 2, none⟩ = some (.int .i64 q) ∧ w.heap.size < w'.heap.size ∧ Below w.heap.size w w') (first | assumption | exact MvS.start _ _ _ _ _ | exact MvS.step (by assumption) (by assumption))
          (first | ((go_at_call 110; refine (l9Number_any _ _ (by assumption)).mono ?_; rintro e w1 ⟨rfl, hb1⟩)))
        go_wp2
        go_ret
        exact ⟨mvCat 43 p q _ HT.out, MvS.bel (by assumption)⟩
      · go_enter Tryz.func76, Tryz.ntmps76
        go_wp2_with (first | (go_at_call 55; refine (l1In_any _ _ _ _).mono ?_; rintro e w' ⟨rfl, rfl⟩))
        go_region_held3 (fun w' => w'.cell? ⟨w.heap.size, 0, none⟩ = some (.int .i64 p) ∧ w'.cell? ⟨w.heap.size, 2, none⟩ = some (.int .i64 q) ∧ w.heap.size < w'.heap.size ∧ Below w.heap.size w w') (first | assumption | exact MvS.start _ _ _ _ _ | exact MvS.step (by assumption) (by assumption))
          (first | ((go_at_call 110; refine (l9Number_any _ _ (by assumption)).mono ?_; rintro e w1 ⟨rfl, hb1⟩)))
        go_wp2
        go_ret
        exact ⟨mvCat 45 p q _ HT.out, MvS.bel (by assumption)⟩
end Go.Proofs.YtipbanhelhidnaaGreatDoor
