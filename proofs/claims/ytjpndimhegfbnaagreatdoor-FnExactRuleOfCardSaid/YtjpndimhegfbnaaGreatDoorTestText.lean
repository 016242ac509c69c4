/-
  Texts of walks and plain lemmas for this seat; no condition.
-/
import Derived.Test.YtjpndimhegfbnaaGreatDoorTestT
namespace Go.Proofs.YtjpndimhegfbnaaGreatDoor
open Go.RowKit

theorem atomsT_len (t : Nat) : ∀ k, (atomsT t k).length ≤ k
  | 0 => by simp [atomsT]
  | k + 1 => by
    have := atomsT_len t k
    simp only [atomsT, List.length_append]
    split <;> simp <;> omega
theorem atomsT_yes {t k : Nat} (h : hb t k = true) : atomsT t (k + 1) = atomsT t k ++ [UInt8.ofNat (48 + k)] := by
  simp only [hb, beq_iff_eq] at h
  simp [atomsT, h]
theorem atomsT_no {t k : Nat} (h : hb t k = false) : atomsT t (k + 1) = atomsT t k := by
  have h' : ¬ (t >>> k) % 2 = 1 := by simpa [hb] using h
  simp [atomsT, h']
theorem cat1 (l : List UInt8) (c : UInt8) (l' : List UInt8) (h : l' = l ++ [c]) : (ByteArray.mk l.toArray) ++ (ByteArray.mk #[c]) = ByteArray.mk l'.toArray := by
  subst h
  show ByteArray.mk l.toArray ++ ByteArray.mk [c].toArray = _
  rw [ByteArray.mk_append_mk]

/-- The table of the named tests lies in memory, and each look-up answers. -/
def MapT (w : World) : Prop := ∃ bm, w.cell? ⟨3, 0, none⟩ = some (.map (some bm)) ∧ bm < w.heap.size ∧
  ∀ w' : World, w'.heap[bm]? = w.heap[bm]? → ∀ t : Nat, t < 16 →
    (Instr.lookup 246 (.map (some bm)) (.int .i64 t) true).run Tryz.prog w' = .ok (match namedT t with | some s => .tuple #[.string ⟨s.toArray⟩, .bool true] | none => .tuple #[.string ⟨#[]⟩, .bool false]) w'
theorem MapT.below {w w' : World} (h : MapT w) (hb : Below w.heap.size w w') : MapT w' := by
  obtain ⟨bm, h1, h2, h3⟩ := h
  refine ⟨bm, (hb.cell (World.block_lt_of_cell? w _ h1)).trans h1, Nat.lt_of_lt_of_le h2 hb.size, fun w2 h => h3 w2 (h.trans (hb.block bm h2))⟩

set_option maxRecDepth 100000 in
set_option maxHeartbeats 1600000 in
theorem impl_TestText (t : Nat) (ht : t < 16) (w : World) (hM : MapT w) :
    Calls Tryz.prog 176 #[.int .i64 t] w fun e w' => e = .returned (.string ⟨(testT t).toArray⟩) ∧ w = w' := by
  obtain ⟨bm, c0, _, hlook⟩ := hM
  have hl := hlook w rfl t ht
  clear hlook
  have hv : inB (t : Int) 0 15 = true := by simp [inB]; omega
  cases hn : namedT t with
  | some s =>
    rw [hn] at hl
    have HT := Lib.hid (show testT t = s by simp [testT, hn])
    clear hn
    go_enter Tryz.func176, Tryz.ntmps176
    go_wp2_with (go_at_call 104; refine (testValid_any _ _).mono ?_; rintro e w' ⟨rfl, rfl⟩)
    go_ret
    exact ⟨by rw [HT.out]; rfl, rfl⟩
  | none =>
    rw [hn] at hl
    have HT := Lib.hid (show testT t = 91 :: atomsT t 4 ++ [93] by simp [testT, hn])
    clear hn
    go_enter Tryz.func176, Tryz.ntmps176
    go_wp2_with (go_at_call 104; refine (testValid_any _ _).mono ?_; rintro e w' ⟨rfl, rfl⟩)
    go_loop [5, 18] (fun s i => ∃ (k : Nat) (l : List UInt8), k ≤ 4 ∧ i = .int .i64 k ∧ s = .string ⟨l.toArray⟩ ∧ l.length ≤ 1 + k ∧ Hid (l = 91 :: atomsT t k)) (fun _ i => 4 - (intOf i).toNat)
    case atStart => exact ⟨0, [91], by omega, rfl, rfl, by simp, Lib.hid rfl⟩
    case round =>
      obtain ⟨k, l, hk, rfl, rfl, hlen, HL⟩ := hrel
      by_cases hlt : k < 4
      · cases hq : hb t k
        · have HN := Lib.hid (atomsT_no hq)
          go_wp2_with (go_at_call 184; refine (holds_any t k ht hlt _).mono ?_; rintro e w' ⟨rfl, rfl⟩)
          go_round
          case rel => exact ⟨k + 1, l, by omega, by go_num, rfl, by omega, Lib.hid (by rw [HL.out, HN.out])⟩
          case measure => simp [intOf]; omega
        · have HN := Lib.hid (atomsT_yes hq)
          have hk4 : k = 0 ∨ k = 1 ∨ k = 2 ∨ k = 3 := by omega
          rcases hk4 with rfl | rfl | rfl | rfl
          · have hu : (Utf8.encode 48).size = 1 := rfl
            go_wp2_with (go_at_call 184; refine (holds_any t 0 ht hlt _).mono ?_; rintro e w' ⟨rfl, rfl⟩)
            go_round
            case rel => exact ⟨1, l ++ [48], by omega, by go_num, congrArg Value.string (cat1 _ _ _ rfl), by simp; omega, Lib.hid (by rw [HL.out, HN.out]; rfl)⟩
            case measure => simp [intOf]
          · have hu : (Utf8.encode 49).size = 1 := rfl
            go_wp2_with (go_at_call 184; refine (holds_any t 1 ht hlt _).mono ?_; rintro e w' ⟨rfl, rfl⟩)
            go_round
            case rel => exact ⟨2, l ++ [49], by omega, by go_num, congrArg Value.string (cat1 _ _ _ rfl), by simp; omega, Lib.hid (by rw [HL.out, HN.out]; rfl)⟩
            case measure => simp [intOf]
          · have hu : (Utf8.encode 50).size = 1 := rfl
            go_wp2_with (go_at_call 184; refine (holds_any t 2 ht hlt _).mono ?_; rintro e w' ⟨rfl, rfl⟩)
            go_round
            case rel => exact ⟨3, l ++ [50], by omega, by go_num, congrArg Value.string (cat1 _ _ _ rfl), by simp; omega, Lib.hid (by rw [HL.out, HN.out]; rfl)⟩
            case measure => simp [intOf]
          · have hu : (Utf8.encode 51).size = 1 := rfl
            go_wp2_with (go_at_call 184; refine (holds_any t 3 ht hlt _).mono ?_; rintro e w' ⟨rfl, rfl⟩)
            go_round
            case rel => exact ⟨4, l ++ [51], by omega, by go_num, congrArg Value.string (cat1 _ _ _ rfl), by simp; omega, Lib.hid (by rw [HL.out, HN.out]; rfl)⟩
            case measure => simp [intOf]
      · obtain rfl : k = 4 := by omega
        go_wp2
        go_ret
        exact ⟨congrArg (fun b => Ending.returned (Value.string b)) (cat1 _ _ _ (by rw [HT.out, HL.out])), rfl⟩
end Go.Proofs.YtjpndimhegfbnaaGreatDoor
