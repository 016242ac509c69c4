/-
  Texts of walks and plain lemmas for this seat; no condition.
-/
import Derived.Test.YtnpnpafdklcjmaaTrace2
namespace Go.Proofs.Ytnpnpafdklcjmaa
open Go.RowKit

def trByte (i : Nat) (x : Int) : UInt8 := UInt8.ofNat (if i % 2 = 0 then 48 + x else 81 + x).toNat
def trGo : Nat → List Int → List UInt8
  | _, [] => []
  | i, x :: r => trByte i x :: trGo (i + 1) r
def trText (xs : List Int) : List UInt8 := if traceV xs then trGo 0 xs else []

theorem trGo_snoc (ys : List Int) (x : Int) : ∀ i, trGo i (ys ++ [x]) = trGo i ys ++ [trByte (i + ys.length) x] := by
  induction ys with
  | nil => intro i; simp [trGo]
  | cons y r ih => intro i; simp only [List.cons_append, trGo, ih, List.length_cons]; rw [show i + 1 + r.length = i + (r.length + 1) by omega]
theorem trGo_take (xs : List Int) (k : Nat) (h : k < xs.length) : trGo 0 (xs.take (k + 1)) = trGo 0 (xs.take k) ++ [trByte k xs[k]] := by
  rw [List.take_add_one, List.getElem?_eq_getElem h, Option.toList_some, trGo_snoc, List.length_take, Nat.zero_add, Nat.min_eq_left (by omega)]
theorem trGo_length (xs : List Int) : ∀ i, (trGo i xs).length = xs.length := by
  induction xs with
  | nil => intro i; rfl
  | cons x r ih => intro i; simp [trGo, ih]

theorem str_app (l m : List UInt8) : (Value.string ({ data := l.toArray } ++ { data := m.toArray })) = .string ⟨(l ++ m).toArray⟩ := by
  rw [ByteArray.mk_append_mk]
theorem ret_str {a b : List UInt8} (h : a = b) : Ending.returned (.string ⟨a.toArray⟩) = .returned (.string ⟨b.toArray⟩) := by rw [h]

theorem conv1 (w : World) (n : Int) : Sem.run Try.prog (convert 27 9 (.slice (some ⟨w.heap.size, 0, none⟩) 1 1)) (w.alloc (.cells #[.int .u8 n] 5)) =
    .ok (.string ⟨[UInt8.ofNat n.toNat].toArray⟩) (w.alloc (.cells #[.int .u8 n] 5)) := by
  have h := run_convert_bytes_arg (P := Try.prog) (w := w.alloc (.cells #[.int .u8 n] 5)) 27 5 Try.underlying27 Try.underlying5 w.heap.size 0 1 1 [n] rfl
    (by intro i hi; obtain rfl : i = 0 := by omega
        rw [World.cell?, heap_alloc_new]; rfl) 9 Try.underlying9
  exact h

set_option maxHeartbeats 400000 in
theorem spec_TraceText (lo hi : Nat) (v : Value) (xs : List Int) (w : World) (hx : SlI lo hi w v xs) (hm : xs.length ≤ 1048576) (hhi : hi ≤ w.heap.size) :
    Calls Try.prog 6 #[v] w fun e w' => e = .returned (.string ⟨(trText xs).toArray⟩) ∧ Below w.heap.size w w' := by
  have hx0 := hx
  obtain ⟨a, cap, rfl, hcap, hcm, hc⟩ := hx.open
  clear hx hcm hcap hc
  cases hv : traceV xs
  · have HX := Lib.hid hx0
    clear hx0
    go_enter Try.func6, Try.ntmps6
    go_wp2
    refine wp_loop_once ?_
    by_cases hl : 0 < xs.length
    all_goals
      go_wp2_with (go_at_call 20; refine (spec_TraceValid _ _ _ xs _ HX.out hm).mono ?_; rintro e w' ⟨rfl, rfl⟩)
      go_ret
      exact ⟨ret_str (a := []) (by simp [trText, hv]), Below.refl _ _⟩
  · go_enter Try.func6, Try.ntmps6
    go_wp2
    go_loopw [3, 4] (fun s i wr => ∃ k : Nat, ∃ l : List UInt8, k ≤ xs.length ∧ i = .int .i64 k ∧ s = .string ⟨l.toArray⟩ ∧ l.length ≤ k ∧ Hid (l = trGo 0 (xs.take k)) ∧ Below w.heap.size w wr) (fun _ i _ => xs.length - (intOf i).toNat)
    case atStart => exact ⟨0, [], by omega, rfl, rfl, Nat.le_refl _, Lib.hid rfl, Below.refl _ _⟩
    case round =>
      obtain ⟨k, l, hk, rfl, rfl, hll, HL, hb⟩ := hrel
      have hx1 := hx0.below hb hhi
      by_cases hlt : k < xs.length
      · obtain ⟨b, off, rfl, _, _, hbs, hcell⟩ := hx1.get k hlt
        have HX := Lib.hid hx1
        have hcv := fun n => conv1 wr n
        have HB := Lib.hid (fun o => hb.alloc hb.size o)
        clear hx0 hx1 hb
        by_cases hp : k % 2 = 0
        · have hp1 : ((k : Int) % 2 == 0) = true := by simp; omega
          obtain ⟨hr1, hr2⟩ := traceV_even hv k hlt hp
          have HT := Lib.hid (show trByte k xs[k] = UInt8.ofNat (48 + xs[k]).toNat by simp [trByte, hp])
          clear hp
          go_wp2_with (go_at_call 20; refine (spec_TraceValid _ _ _ xs _ HX.out hm).mono ?_; rintro e w' ⟨rfl, rfl⟩)
          go_roundw
          case rel => exact ⟨k + 1, l ++ [UInt8.ofNat (48 + xs[k]).toNat], by omega, by go_num, str_app _ _, by simp; omega, Lib.hid (by rw [trGo_take xs k hlt, HL.out, HT.out]), HB.out _⟩
          case measure => simp [intOf]; omega
        · have hp1 : ((k : Int) % 2 == 0) = false := by simp; omega
          obtain ⟨hr1, hr2⟩ := traceV_odd hv k hlt hp
          have HT := Lib.hid (show trByte k xs[k] = UInt8.ofNat (97 + xs[k] - 16).toNat by simp [trByte, hp]; congr 2; omega)
          clear hp
          go_wp2_with (go_at_call 20; refine (spec_TraceValid _ _ _ xs _ HX.out hm).mono ?_; rintro e w' ⟨rfl, rfl⟩)
          go_roundw
          case rel => exact ⟨k + 1, l ++ [UInt8.ofNat (97 + xs[k] - 16).toNat], by omega, by go_num, str_app _ _, by simp; omega, Lib.hid (by rw [trGo_take xs k hlt, HL.out, HT.out]), HB.out _⟩
          case measure => simp [intOf]; omega
      · obtain rfl : k = xs.length := by omega
        have HX := Lib.hid hx1
        clear hx0 hx1
        go_wp2
        go_ret
        exact ⟨ret_str (by rw [HL.out, List.take_length]; simp [trText, hv]), hb⟩
end Go.Proofs.Ytnpnpafdklcjmaa
