/-
  Texts of walks and plain lemmas for this seat; no condition.
-/
import Derived.Test.YtagjpecibpejmaaGreatDoorJournal
import Derived.Deep.RegionWith
namespace Go.Proofs.YtagjpecibpejmaaGreatDoor
open Go.RowKit

theorem strCat3 (l t : List UInt8) : ByteArray.mk l.toArray ++ ByteArray.mk t.toArray ++ ByteArray.mk #[10] = ByteArray.mk (l ++ (t ++ [10])).toArray := by
  show ByteArray.mk l.toArray ++ ByteArray.mk t.toArray ++ ByteArray.mk [10].toArray = _
  rw [ByteArray.mk_append_mk, ByteArray.mk_append_mk, List.append_assoc]

set_option maxRecDepth 100000 in
set_option maxHeartbeats 1600000 in
theorem spec_JournalText (lo hi : Nat) (v : Value) (xs : List Ac) (w : World) (hx : SlA lo hi w v xs) (hm : xs.length ≤ 1048576) (hhi : hi ≤ w.heap.size) :
    Calls Tryz.prog 46 #[v] w fun e w' => e = .returned (.string ⟨(jrText xs).toArray⟩) ∧ Below w.heap.size w w' := by
  obtain ⟨a, cap, rfl, hcap, hcm⟩ := hx.shape
  have HX := Lib.hid hx
  clear hx hcm
  go_enter Tryz.func46, Tryz.ntmps46
  go_wp2
  go_loopw [3, 4] (fun s i wr => ∃ k : Nat, ∃ l : List UInt8, k ≤ xs.length ∧ i = .int .i64 k ∧ s = .string ⟨l.toArray⟩ ∧ l.length ≤ k * 8 ∧ Hid (l = jrGo (xs.take k)) ∧ Hid (∀ j (h : j < xs.length), j < k → actText xs[j] ≠ []) ∧ Below w.heap.size w wr) (fun _ i _ => xs.length - (intOf i).toNat)
  case atStart => exact ⟨0, [], by omega, rfl, rfl, Nat.le_refl _, Lib.hid rfl, Lib.hid (by omega), Below.refl _ _⟩
  case round =>
    obtain ⟨k, l, hk, rfl, rfl, hll, HL, HN, hb⟩ := hrel
    by_cases hlt : k < xs.length
    · obtain ⟨b, off, rfl, _, hbh, hbs, q0, q1, q2, q3, q4⟩ := (HX.out.below hb hhi).get k hlt
      have hsz := hb.size
      have HBe := Lib.hid hb
      clear hb
      go_wp2_with fail
      refine (spec_ActText xs[k] _).mono ?_
      rintro e w1 ⟨rfl, hb1⟩
      clear q0 q1 q2 q3 q4
      replace HBe := Lib.hid (HBe.out.trans (hb1.mono hsz))
      have hsz1 := HBe.out.size
      obtain ⟨_, _, e, _, _, hbs1, q0, q1, q2, q3, q4⟩ := (HX.out.below HBe.out hhi).get k hlt
      injection e with e; injection e with e1 e2; subst e1 e2
      clear hb1
      have hl7 := actText_len xs[k]
      obtain ⟨t, ht⟩ : ∃ t, t = actText xs[k] := ⟨_, rfl⟩
      have HT := Lib.hid ht
      rw [← ht] at hl7 ⊢
      clear ht
      cases t
      · go_wp2
        go_ret
        exact ⟨ret_str (a := []) (by rw [jrText, jrOk_no hlt HT.out.symm]; rfl), HBe.out⟩
      · rename_i c r
        have hr6 : r.length ≤ 6 := by simpa using hl7
        go_wp2_with fail
        refine (spec_ActText xs[k] _).mono ?_
        rintro e w2 ⟨rfl, hb2⟩
        rw [← HT.out]
        have HB2 := Lib.hid (HBe.out.trans (hb2.mono hsz1))
        clear hb2 q0 q1 q2 q3 q4
        go_wp2
        go_roundw
        case rel =>
          refine ⟨k + 1, l ++ ((c :: r) ++ [10]), by omega, by go_num, by congr 1; exact strCat3 l (c :: r), by simp; omega, Lib.hid (by rw [jrGo_take xs k hlt, HL.out, HT.out]), Lib.hid fun j h hj => ?_, HB2.out⟩
          rcases Nat.lt_or_ge j k with h' | h'
          · exact HN.out j h h'
          · obtain rfl : j = k := by omega
            rw [← HT.out]; simp
        case measure => simp [intOf]; omega
    · obtain rfl : k = xs.length := by omega
      go_wp2
      go_ret
      exact ⟨ret_str (by rw [HL.out, List.take_length, jrText, jrOk_yes (fun j h => HN.out j h h)]; rfl), hb⟩
end Go.Proofs.YtagjpecibpejmaaGreatDoor
