/-
  Texts of walks and plain lemmas for this seat; no condition.
-/
import Derived.Test.YtoondakdjhhehaaGA
import Derived.Test.YtoondakdjhhehaaGB
import Derived.Deep.RegionHeld3
import Derived.Deep.RegionWith
namespace Go.Proofs.Ytoondakdjhhehaa
open Go.RowKit
section

theorem specTestValid_any (t : Int) (w : World) : Calls Try.prog 41 #[.int .i64 t] w fun e w' => e = .returned (.bool (inB t 0 15)) ∧ w = w' := by
  go_enter Try.func41, Try.ntmps41
  go_wp2_with (go_at_call 30; refine (l1In_any _ _ _ _).mono ?_; rintro e w' ⟨rfl, rfl⟩)
  go_ret
  exact ⟨rfl, rfl⟩

theorem conv1 (w : World) (k : Nat) :
    Sem.run Try.prog (convert 22 9 (.slice (some ⟨w.heap.size, 0, none⟩) 1 1)) (w.alloc (.cells #[.int .u8 (48 + (k : Int))] 5)) = .ok (.string ⟨#[UInt8.ofNat (48 + k)]⟩) (w.alloc (.cells #[.int .u8 (48 + (k : Int))] 5)) := by
  have h := conv_lit (P := Try.prog) 22 9 5 Try.underlying22 Try.underlying5 Try.underlying9 w [48 + (k : Int)]
  simp only [List.length_cons, List.length_nil, List.map_cons, List.map_nil, Nat.zero_add] at h
  rw [show ((48 : Int) + (k : Int)).toNat = 48 + k by omega] at h
  exact h

theorem named_pos : ∀ t, t < 16 → ∀ s, namedT t = some s → (s.length = 1 ∨ s.length = 2) := by decide +kernel

end

section

/-- s is what the text holds from n on. -/
def Tail (txt s : List UInt8) (n : Nat) : Prop := s = txt.drop n ∧ n + s.length = txt.length
theorem Tail.get {txt t : List UInt8} {d : UInt8} {n : Nat} (h : Tail txt (d :: t) n) : ∃ h : n < txt.length, txt[n] = d := by
  obtain ⟨h1, h2⟩ := h
  have hl : n < txt.length := by simp at h2; omega
  refine ⟨hl, ?_⟩
  rw [List.drop_eq_getElem_cons hl] at h1
  injection h1 with h1 _
  exact h1.symm
theorem Tail.next {txt t : List UInt8} {d : UInt8} {n : Nat} (h : Tail txt (d :: t) n) : Tail txt t (n + 1) := by
  obtain ⟨h1, h2⟩ := h
  have hl : n < txt.length := by simp at h2; omega
  rw [List.drop_eq_getElem_cons hl] at h1
  injection h1 with _ h1
  exact ⟨h1, by simp at h2; omega⟩
/-- What a part of the reader's hands back. -/
def ReadG (txt : List UInt8) (w : World) (e : List Int) (r : List UInt8) (e' : Ending) (w' : World) : Prop :=
  ∃ v n, e' = .returned (.tuple #[v, .int .i64 ((n : Nat) : Int), .bool true]) ∧ Tail txt r n ∧ Below w.heap.size w w' ∧ OwnI w.heap.size w'.heap.size 3 w' v e
theorem ext_one (txt : List UInt8) (n : Nat) (h : n < txt.length) : (ByteArray.mk txt.toArray).extract n (n + 1) = ⟨[txt[n]].toArray⟩ := by
  apply ByteArray.ext
  simp [ByteArray.data_extract]
  rw [List.drop_eq_getElem_cons h]
  rfl

end

section

end

section

theorem convC (w : World) (x : Nat) :
    Sem.run Try.prog (convert 22 9 (.slice (some ⟨w.heap.size, 0, none⟩) 1 1)) (w.alloc (.cells #[.int .u8 (x : Int)] 5)) = .ok (.string ⟨#[UInt8.ofNat x]⟩) (w.alloc (.cells #[.int .u8 (x : Int)] 5)) := by
  have h := conv_lit (P := Try.prog) 22 9 5 Try.underlying22 Try.underlying5 Try.underlying9 w [(x : Int)]
  simp only [List.length_cons, List.length_nil, List.map_cons, List.map_nil, Nat.zero_add, Int.toNat_natCast] at h
  exact h
theorem map_take_next {txt : List UInt8} {k : Nat} (h : k < txt.length) : (txt.take (k + 1)).map repl8 = (txt.take k).map repl8 ++ [repl8 txt[k]] := by
  rw [List.map_take, List.map_take, List.take_add_one, List.getElem?_eq_getElem (by simpa using h)]
  simp

end

section

theorem rule_cut : ∀ n, n < 21 → ruleT.getD n [] = sideT n true ++ 61 :: sideT n false ∧ ((sideT n true).all fun c => c.toNat != 61) = true := by decide +kernel
def ruleVs : List Value := ruleT.map fun l => .string ⟨l.toArray⟩
theorem ruleVs_get {n : Nat} (h : n < 21) : ruleVs[n]? = some (.string ⟨(ruleT.getD n []).toArray⟩) := by
  have hl : n < ruleT.length := h
  simp [ruleVs, List.getD, hl]

theorem ext_pre (a b : List UInt8) (c : UInt8) : (ByteArray.mk (a ++ c :: b).toArray).extract 0 a.length = ⟨a.toArray⟩ := by
  apply ByteArray.ext
  simp [ByteArray.data_extract]
theorem ext_suf (a b : List UInt8) (c : UInt8) : (ByteArray.mk (a ++ c :: b).toArray).extract (a.length + 1) (a ++ c :: b).length = ⟨b.toArray⟩ := by
  rw [extN]
  congr 2
  rw [show a.length + 1 = (a ++ [c]).length by simp, show a ++ c :: b = (a ++ [c]) ++ b by simp, List.drop_left]

end
end Go.Proofs.Ytoondakdjhhehaa
