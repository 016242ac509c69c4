/-
  Texts of walks and plain lemmas for this seat; no condition.
-/
import Derived.Test.YtnpnpafdklcjmaaTText
import Derived.Test.YtnpnpafdklcjmaaBld
namespace Go.Proofs.Ytnpnpafdklcjmaa
open Go.RowKit

set_option maxHeartbeats 800000 in
theorem impl_TraceText (lo hi : Nat) (v : Value) (xs : List Int) (w : World) (hx : SlI lo hi w v xs) (hm : xs.length ≤ 1048576) (hhi : hi ≤ w.heap.size) :
    Calls Try.prog 8 #[v] w fun e w' => e = .returned (.string ⟨(trText xs).toArray⟩) ∧ Below w.heap.size w w' := by
  have hx0 := hx
  obtain ⟨a, cap, rfl, hcap, hcm, hc⟩ := hx.open
  clear hx hcm hcap hc
  cases hv : traceV xs
  · have HX := Lib.hid hx0
    clear hx0
    go_enter Try.func8, Try.ntmps8
    go_wp2_with (go_at_call 11; refine (impl_TraceValid _ _ _ xs _ HX.out hm).mono ?_; rintro e w' ⟨rfl, rfl⟩)
    go_ret
    exact ⟨ret_str (a := []) (by simp [trText, hv]), Below.refl _ _⟩
  · have HX := Lib.hid hx0
    clear hx0
    have hlen := (traceV_len hv).2
    go_enter Try.func8, Try.ntmps8
    go_wp2_with (go_at_call 11; refine (impl_TraceValid _ _ _ xs _ HX.out hm).mono ?_; rintro e w' ⟨rfl, rfl⟩)
    go_loopw [11] (fun i wr => ∃ k : Nat, ∃ l : List UInt8, k ≤ xs.length ∧ i = .int .i64 k ∧ l.length ≤ k ∧ Hid (l = trGo 0 (xs.take k)) ∧ Bld w.heap.size w.heap.size l wr ∧ Below w.heap.size w wr) (fun i _ => xs.length - (intOf i).toNat)
    case atStart => exact ⟨0, [], by omega, rfl, Nat.le_refl _, Lib.hid rfl, Bld_new w, (Below.refl _ _).alloc (Nat.le_refl _) _⟩
    case round =>
      obtain ⟨k, l, hk, rfl, hll, HL, HB, hb⟩ := hrel
      have HB' := Lib.hid HB
      clear HB
      have hx1 := HX.out.below hb hhi
      by_cases hlt : k < xs.length
      · obtain ⟨b, off, rfl, _, _, hbs, hcell⟩ := hx1.get k hlt
        have hsz := hb.size
        have HBe := Lib.hid hb
        clear hx1 hb
        by_cases hp : k % 2 = 0
        · have hp1 : ((k : Int) % 2 == 0) = true := by simp; omega
          obtain ⟨hr1, hr2⟩ := traceV_even hv k hlt hp
          have HT := Lib.hid (show trByte k xs[k] = UInt8.ofNat (48 + xs[k]).toNat by simp [trByte, hp])
          clear hp
          go_wp2_with (go_at_call 21; refine (WriteByte_any w.heap.size w.heap.size l _ _ HB'.out (by omega) hsz (by omega) (by omega)).mono ?_; rintro e w1 ⟨rfl, h1, h2⟩)
          go_roundw
          case rel => exact ⟨k + 1, l ++ [UInt8.ofNat (48 + xs[k]).toNat], by omega, by go_num, by simp; omega, Lib.hid (by rw [trGo_take xs k hlt, HL.out, HT.out]), h1, HBe.out.trans h2⟩
          case measure => simp [intOf]; omega
        · have hp1 : ((k : Int) % 2 == 0) = false := by simp; omega
          obtain ⟨hr1, hr2⟩ := traceV_odd hv k hlt hp
          have HT := Lib.hid (show trByte k xs[k] = UInt8.ofNat (97 + xs[k] - 16).toNat by simp [trByte, hp]; congr 2; omega)
          clear hp
          go_wp2_with (go_at_call 21; refine (WriteByte_any w.heap.size w.heap.size l _ _ HB'.out (by omega) hsz (by omega) (by omega)).mono ?_; rintro e w1 ⟨rfl, h1, h2⟩)
          go_roundw
          case rel => exact ⟨k + 1, l ++ [UInt8.ofNat (97 + xs[k] - 16).toNat], by omega, by go_num, by simp; omega, Lib.hid (by rw [trGo_take xs k hlt, HL.out, HT.out]), h1, HBe.out.trans h2⟩
          case measure => simp [intOf]; omega
      · obtain rfl : k = xs.length := by omega
        have hsz := hb.size
        have HBe := Lib.hid hb
        clear hx1 hb
        go_wp2_with (go_at_call 22; refine (String_any w.heap.size w.heap.size l _ HB'.out hsz).mono ?_; rintro e w1 ⟨rfl, h1⟩)
        go_ret
        exact ⟨ret_str (by rw [HL.out, List.take_length]; simp [trText, hv]), HBe.out.trans h1⟩
end Go.Proofs.Ytnpnpafdklcjmaa
