/-
  Texts of walks and plain lemmas for this seat; no condition.
-/
import Derived.Test.YtagjpecibpejmaaGreatDoorJournal
import Derived.Deep.RegionWith
namespace Go.Proofs.YtagjpecibpejmaaGreatDoor
open Go.RowKit

set_option maxRecDepth 100000 in
set_option maxHeartbeats 1600000 in
theorem impl_JournalText (lo hi : Nat) (v : Value) (xs : List Ac) (w : World) (hx : SlA lo hi w v xs) (hm : xs.length ≤ 1048576) (hhi : hi ≤ w.heap.size) :
    Calls Tryz.prog 45 #[v] w fun e w' => e = .returned (.string ⟨(jrText xs).toArray⟩) ∧ Below w.heap.size w w' := by
  obtain ⟨a, cap, rfl, hcap, hcm⟩ := hx.shape
  have HX := Lib.hid hx
  clear hx hcm
  go_enter Tryz.func45, Tryz.ntmps45
  go_wp2
  go_loopw [9] (fun i wr => ∃ k : Nat, ∃ l : List UInt8, k ≤ xs.length ∧ i = .int .i64 k ∧ l.length ≤ k * 8 ∧ Hid (l = jrGo (xs.take k)) ∧ Hid (∀ j (h : j < xs.length), j < k → actText xs[j] ≠ []) ∧ Bld w.heap.size w.heap.size l wr ∧ Below w.heap.size w wr) (fun i _ => xs.length - (intOf i).toNat)
  case atStart => exact ⟨0, [], by omega, rfl, Nat.le_refl _, Lib.hid rfl, Lib.hid (by omega), Bld_new w, (Below.refl _ _).alloc (Nat.le_refl _) _⟩
  case round =>
    obtain ⟨k, l, hk, rfl, hll, HL, HN, HB, hb⟩ := hrel
    have HB' := Lib.hid HB
    clear HB
    by_cases hlt : k < xs.length
    · obtain ⟨b, off, rfl, _, hbh, hbs, q0, q1, q2, q3, q4⟩ := (HX.out.below hb hhi).get k hlt
      have hsz := hb.size
      have HBe := Lib.hid hb
      clear hb
      go_wp2_with fail
      refine (impl_ActText xs[k] _).mono ?_
      rintro e w1 ⟨rfl, hb1⟩
      replace hb1 := Below.from_alloc hb1
      have HBl := Lib.hid (Bld.below HB'.out hb1)
      replace HBe := Lib.hid (HBe.out.trans (hb1.mono hsz))
      have hsz1 := HBe.out.size
      clear HB' hb1
      clear q0 q1 q2 q3 q4
      have hl7 := actText_len xs[k]
      obtain ⟨t, ht⟩ : ∃ t, t = actText xs[k] := ⟨_, rfl⟩
      rw [← ht] at hl7 ⊢
      have HT := Lib.hid ht
      clear ht
      cases t
      · go_wp2
        go_ret
        exact ⟨ret_str (a := []) (by rw [jrText, jrOk_no hlt HT.out.symm]; rfl), HBe.out⟩
      · rename_i c r
        have hr6 : r.length ≤ 6 := by simpa using hl7
        go_wp2_with fail
        refine (WriteString_any w.heap.size w.heap.size l ((c :: r) ++ [10]) _ _ HBl.out (by show ByteArray.mk (c :: r).toArray ++ ByteArray.mk [10].toArray = _; rw [ByteArray.mk_append_mk]) (by rw [List.length_append]; simp at hl7 ⊢; omega) hsz1).mono ?_
        rintro e w2 ⟨rfl, h1, h2⟩
        go_wp2
        go_roundw
        case rel =>
          refine ⟨k + 1, l ++ ((c :: r) ++ [10]), by omega, by go_num, by simp at hl7 ⊢; omega, Lib.hid (by rw [jrGo_take xs k hlt, HL.out, HT.out]), Lib.hid fun j h hj => ?_, h1, HBe.out.trans h2⟩
          rcases Nat.lt_or_ge j k with h' | h'
          · exact HN.out j h h'
          · obtain rfl : j = k := by omega
            rw [← HT.out]; simp
        case measure => simp [intOf]; omega
    · obtain rfl : k = xs.length := by omega
      have hsz := hb.size
      have HBe := Lib.hid hb
      clear hb
      go_wp2_with (go_at_call 88; refine (String_any w.heap.size w.heap.size l _ HB'.out hsz).mono ?_; rintro e w1 ⟨rfl, h1⟩)
      go_ret
      exact ⟨ret_str (by rw [HL.out, List.take_length, jrText, jrOk_yes (fun j h => HN.out j h h)]; rfl), HBe.out.trans h1⟩
end Go.Proofs.YtagjpecibpejmaaGreatDoor
