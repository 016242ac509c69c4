/-
  Texts of walks and plain lemmas for this seat; no condition.
-/
import Derived.Test.YtipbanhelhidnaaGreatDoorGA
import Derived.Test.YtipbanhelhidnaaGreatDoorItoa
import Derived.Deep.QuietTactic
import Derived.BigQuiet
import Derived.Deep.RegionWith
namespace Go.Proofs.YtipbanhelhidnaaGreatDoor
open Go.RowKit

def mvOk (m : Mv) : Bool := decide (0 ≤ m.which) && decide (m.which ≤ 20) && decide (0 ≤ m.at_) && decide (m.at_ ≤ 39)
def mvText (m : Mv) : List UInt8 := if mvOk m then (if m.back then [45] else [43]) ++ dig2 m.which.toNat ++ [64] ++ dig2 m.at_.toNat else []
theorem dig2_len (n : Nat) : (dig2 n).length ≤ 2 := by unfold dig2; split <;> simp
theorem dig2_pos (n : Nat) : 1 ≤ (dig2 n).length := by unfold dig2; split <;> simp

theorem mvText_len (m : Mv) : (mvText m).length ≤ 6 := by
  unfold mvText
  split
  · have h1 := dig2_len m.which.toNat
    have h2 := dig2_len m.at_.toNat
    cases m.back <;> simp <;> omega
  · simp

theorem mvCat (sg : UInt8) (p q : Nat) (l : List UInt8) (h : l = [sg] ++ dig2 p ++ [64] ++ dig2 q) :
    Ending.returned (.string ({ data := #[sg] } ++ { data := (dig2 p).toArray } ++ { data := #[64] } ++ { data := (dig2 q).toArray })) = .returned (.string ⟨l.toArray⟩) := by
  show Ending.returned (.string (ByteArray.mk [sg].toArray ++ ByteArray.mk (dig2 p).toArray ++ ByteArray.mk [64].toArray ++ ByteArray.mk (dig2 q).toArray)) = _
  rw [ByteArray.mk_append_mk, ByteArray.mk_append_mk, ByteArray.mk_append_mk, h]

set_option maxHeartbeats 1600000 in
theorem impl_MoveText (m : Mv) (w : World) :
    Calls Tryz.prog 35 #[.agg #[.int .i64 m.which, .bool m.back, .int .i64 m.at_]] w fun e w' => e = .returned (.string ⟨(mvText m).toArray⟩) ∧ Below w.heap.size w w' := by
  obtain ⟨p, b, q⟩ := m
  have hb : Hid (∀ o, Below w.heap.size w (w.alloc o)) := Lib.hid fun o => (Below.refl _ _).alloc (Nat.le_refl _) _
  by_cases h1 : 0 ≤ p ∧ p ≤ 20
  · by_cases h2 : 0 ≤ q
    · by_cases h3 : q ≤ 39
      · obtain ⟨p, rfl⟩ : ∃ n : Nat, p = n := ⟨p.toNat, by omega⟩
        obtain ⟨q, rfl⟩ : ∃ n : Nat, q = n := ⟨q.toNat, by omega⟩
        have hp : p < 100 := by omega
        have hq : q < 100 := by omega
        have hp' : p ≤ 20 := by omega
        have hq' : q ≤ 39 := by omega
        have l1 := dig2_len p
        have l2 := dig2_len q
        have HT := Lib.hid (show mvText ⟨p, b, q⟩ = (if b then [45] else [43]) ++ dig2 p ++ [64] ++ dig2 q by simp [mvText, mvOk]; omega)
        clear h1 h2 h3
        cases b
        · go_enter Tryz.func35, Tryz.ntmps35
          go_wp2
          go_quiet ((go_at_call 36; exact Calls.quiet_of_same (Itoa_q _ _ (by assumption))))
          go_wp2
          go_ret
          exact ⟨mvCat 43 p q _ HT.out, below_drewN (hb.out _) _⟩
        · go_enter Tryz.func35, Tryz.ntmps35
          go_wp2
          go_quiet ((go_at_call 36; exact Calls.quiet_of_same (Itoa_q _ _ (by assumption))))
          go_wp2
          go_ret
          exact ⟨mvCat 45 p q _ HT.out, below_drewN (hb.out _) _⟩
      · have HT := Lib.hid (show mvText ⟨p, b, q⟩ = [] by simp [mvText, mvOk]; omega)
        go_enter Tryz.func35, Tryz.ntmps35
        go_wp2
        go_ret
        exact ⟨ret_str (a := []) (by rw [HT.out]), hb.out _⟩
    · have HT := Lib.hid (show mvText ⟨p, b, q⟩ = [] by simp [mvText, mvOk]; omega)
      go_enter Tryz.func35, Tryz.ntmps35
      go_wp2
      go_ret
      exact ⟨ret_str (a := []) (by rw [HT.out]), hb.out _⟩
  · have HT := Lib.hid (show mvText ⟨p, b, q⟩ = [] by simp [mvText, mvOk]; omega)
    by_cases h2 : 0 ≤ p
    · have h3 : 20 < p := by omega
      clear h1
      go_enter Tryz.func35, Tryz.ntmps35
      go_wp2
      go_ret
      exact ⟨ret_str (a := []) (by rw [HT.out]), hb.out _⟩
    · clear h1
      go_enter Tryz.func35, Tryz.ntmps35
      go_wp2
      go_ret
      exact ⟨ret_str (a := []) (by rw [HT.out]), hb.out _⟩
end Go.Proofs.YtipbanhelhidnaaGreatDoor
