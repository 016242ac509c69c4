/-
  Texts of walks and plain lemmas for this seat; no condition.
-/
import Derived.Test.YtjpndimhegfbnaaGreatDoorReadTest
import Derived.Test.YtjpndimhegfbnaaGreatDoorNum
namespace Go.Proofs.YtjpndimhegfbnaaGreatDoor
open Go.RowKit

theorem specTestValid_any (t : Int) (w : World) : Calls Tryz.prog 153 #[.int .i64 t] w fun e w' => e = .returned (.bool (inB t 0 15)) ∧ w = w' := by
  go_enter Tryz.func153, Tryz.ntmps153
  go_wp2_with (go_at_call 69; refine (l1In_any _ _ _ _).mono ?_; rintro e w' ⟨rfl, rfl⟩)
  go_ret
  exact ⟨rfl, rfl⟩

set_option maxHeartbeats 1600000 in
theorem l1Named_any (t : Nat) (ht : t < 16) (w : World) : Calls Tryz.prog 154 #[.int .i64 t] w fun e w' => e = .returned (.string ⟨((namedT t).getD []).toArray⟩) ∧ w = w' := by
  have h1 : t = 0 ∨ t = 1 ∨ t = 2 ∨ t = 3 ∨ t = 4 ∨ t = 5 ∨ t = 6 ∨ t = 7 ∨ t = 8 ∨ t = 9 ∨ t = 10 ∨ t = 11 ∨ t = 12 ∨ t = 13 ∨ t = 14 ∨ t = 15 := by omega
  clear ht
  rcases h1 with rfl | rfl | rfl | rfl | rfl | rfl | rfl | rfl | rfl | rfl | rfl | rfl | rfl | rfl | rfl | rfl
  all_goals (go_enter Tryz.func154, Tryz.ntmps154; go_wp2; go_ret; exact ⟨rfl, rfl⟩)

theorem conv1 (w : World) (k : Nat) :
    Sem.run Tryz.prog (convert 30 9 (.slice (some ⟨w.heap.size, 0, none⟩) 1 1)) (w.alloc (.cells #[.int .u8 (48 + (k : Int))] 5)) = .ok (.string ⟨#[UInt8.ofNat (48 + k)]⟩) (w.alloc (.cells #[.int .u8 (48 + (k : Int))] 5)) := by
  have h := conv_lit (P := Tryz.prog) 30 9 5 Tryz.underlying30 Tryz.underlying5 Tryz.underlying9 w [48 + (k : Int)]
  simp only [List.length_cons, List.length_nil, List.map_cons, List.map_nil, Nat.zero_add] at h
  rw [show ((48 : Int) + (k : Int)).toNat = 48 + k by omega] at h
  exact h

theorem named_pos : ∀ t, t < 16 → ∀ s, namedT t = some s → (s.length = 1 ∨ s.length = 2) := by decide +kernel

set_option maxRecDepth 100000 in
set_option maxHeartbeats 3200000 in
theorem spec_TestText (t : Nat) (ht : t < 16) (w : World) :
    Calls Tryz.prog 143 #[.int .i64 t] w fun e w' => e = .returned (.string ⟨(testT t).toArray⟩) ∧ Below w.heap.size w w' := by
  have hv : inB (t : Int) 0 15 = true := by simp [inB]; omega
  cases hn : namedT t with
  | some s =>
    have hs : (s == []) = false := by
      rcases named_pos t ht s hn with h | h <;> cases s <;> simp at h ⊢
    have HT := Lib.hid (show testT t = s by simp [testT, hn])
    have HN := l1Named_any t ht
    rw [hn] at HN
    simp only [Option.getD_some] at HN
    replace HN := Lib.hid HN
    clear hn
    go_enter Tryz.func143, Tryz.ntmps143
    go_wp2_with (first | (go_at_call 153; refine (specTestValid_any _ _).mono ?_; rintro e w' ⟨rfl, rfl⟩) | (go_at_call 154; refine (HN.out _).mono ?_; rintro e w' ⟨rfl, rfl⟩))
    go_ret
    exact ⟨by rw [HT.out]; rfl, Below.refl _ _⟩
  | none =>
    have HT := Lib.hid (show testT t = 91 :: atomsT t 4 ++ [93] by simp [testT, hn])
    have HN := l1Named_any t ht
    rw [hn] at HN
    simp only [Option.getD_none] at HN
    replace HN := Lib.hid HN
    clear hn
    go_enter Tryz.func143, Tryz.ntmps143
    go_wp2_with (first | (go_at_call 153; refine (specTestValid_any _ _).mono ?_; rintro e w' ⟨rfl, rfl⟩) | (go_at_call 154; refine (HN.out _).mono ?_; rintro e w' ⟨rfl, rfl⟩))
    go_loopw [3, 4] (fun s i wr => ∃ (k : Nat) (l : List UInt8), k ≤ 4 ∧ i = .int .i64 k ∧ s = .string ⟨l.toArray⟩ ∧ l.length ≤ 1 + k ∧ Hid (l = 91 :: atomsT t k) ∧ Hid (Below w.heap.size w wr)) (fun _ i _ => 4 - (intOf i).toNat)
    case atStart => exact ⟨0, [91], by omega, rfl, rfl, by simp, Lib.hid rfl, Lib.hid (Below.refl _ _)⟩
    case round =>
      obtain ⟨k, l, hk, rfl, rfl, hlen, HL, HB⟩ := hrel
      by_cases hlt : k < 4
      · cases hq : hb t k
        · have HQ := Lib.hid (l1Bit_any t k ht hlt)
          rw [hq] at HQ
          have HN := Lib.hid (atomsT_no hq)
          go_wp2_with (go_at_call 155; refine (HQ.out _).mono ?_; rintro e w' ⟨rfl, rfl⟩)
          go_roundw
          case rel => exact ⟨k + 1, l, by omega, by go_num, rfl, by omega, Lib.hid (by rw [HL.out, HN.out]), HB⟩
          case measure => simp [intOf]; omega
        · have HQ := Lib.hid (l1Bit_any t k ht hlt)
          rw [hq] at HQ
          have HN := Lib.hid (atomsT_yes hq)
          have hcv := conv1 wr k
          go_wp2_with (go_at_call 155; refine (HQ.out _).mono ?_; rintro e w' ⟨rfl, rfl⟩)
          go_roundw
          case rel => exact ⟨k + 1, l ++ [48 + UInt8.ofNat k], by omega, by go_num, congrArg Value.string (cat1 _ _ _ rfl), by simp; omega, Lib.hid (by rw [HL.out, HN.out, UInt8.ofNat_add]; rfl), Lib.hid (HB.out.alloc HB.out.size _)⟩
          case measure => simp [intOf]; omega
      · obtain rfl : k = 4 := by omega
        go_wp2
        go_ret
        exact ⟨congrArg (fun b => Ending.returned (Value.string b)) (cat1 _ _ _ (by rw [HT.out, HL.out])), HB.out⟩

set_option maxRecDepth 100000 in
set_option maxHeartbeats 1600000 in
theorem spec_ReadTest (l : List UInt8) (s : ByteArray) (hs : s = ⟨l.toArray⟩) (w : World) :
    Calls Tryz.prog 133 #[.string s] w fun e w' => e = .returned (rdT (readT l)) ∧ Below w.heap.size w w' := by
  subst hs
  go_enter Tryz.func133, Tryz.ntmps133
  go_wp2
  go_loopw [4] (fun i wr => ∃ k : Nat, k ≤ 16 ∧ i = .int .i64 k ∧ Hid (NoT l k) ∧ Hid (Below w.heap.size w wr)) (fun i _ => 16 - (intOf i).toNat)
  case atStart => exact ⟨0, by omega, rfl, Lib.hid (by intro j hj; omega), Lib.hid (Below.refl _ _)⟩
  case round =>
    obtain ⟨k, hk, rfl, HN, HB⟩ := hrel
    by_cases hlt : k < 16
    · cases hq : (testT k == l)
      · go_wp2_with (go_at_call 143; refine (spec_TestText k hlt _).mono ?_; rintro e w1 ⟨rfl, hb⟩)
        have HB1 := Lib.hid (HB.out.trans (hb.mono HB.out.size))
        clear hb
        go_roundw
        case rel =>
          refine ⟨k + 1, by omega, by go_num, Lib.hid ?_, HB1⟩
          intro j hj
          rcases Nat.lt_or_ge j k with h | h
          · exact HN.out j h
          · obtain rfl : j = k := by omega
            simpa using hq
        case measure => simp [intOf]; omega
      · have HR := Lib.hid (readT_some hlt HN.out (by simpa using hq))
        go_wp2_with (go_at_call 143; refine (spec_TestText k hlt _).mono ?_; rintro e w1 ⟨rfl, hb⟩)
        go_ret2
        exact ⟨by rw [HR.out]; rfl, HB.out.trans (hb.mono HB.out.size)⟩
    · obtain rfl : k = 16 := by omega
      have HR := Lib.hid (readT_none HN.out)
      go_wp2
      go_ret2
      exact ⟨by rw [HR.out]; rfl, HB.out⟩
end Go.Proofs.YtjpndimhegfbnaaGreatDoor
