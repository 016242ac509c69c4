/-
  Texts of walks and plain lemmas for this seat; no condition.
-/
import Derived.Test.YtoondakdjhhehaaGE
import Derived.Test.YtoondakdjhhehaaGD
import Derived.Deep.RegionHeldLaw
import Derived.Deep.RegionHeld3
import Derived.Deep.RegionWith
namespace Go.Proofs.Ytoondakdjhhehaa
open Go.RowKit
section

theorem hrule3_of {lo hi : Nat} {w w' : World} {a b : Value} {L R : List Int} (h : RuleOwn lo hi w a b L R) (hb : Below w.heap.size w w') (hh : hi ≤ w.heap.size) : RdI w' a L ∧ RdI w' b R := by
  obtain ⟨m, h1, h2, h3, h4⟩ := h
  exact ⟨(h3.sl.below hb (by omega)).wide (Nat.zero_le _) (Nat.le_trans (Nat.le_trans h2 hh) hb.size), (h4.sl.below hb hh).wide (Nat.zero_le _) (Nat.le_trans hh hb.size)⟩

theorem SlI.len' {lo hi n c : Nat} {w : World} {a : Option Addr} {xs : List Int} (h : SlI lo hi w (.slice a n c) xs) : n = xs.length := by
  obtain ⟨_, _, e, _⟩ := h
  injection e
theorem SlI.take {lo hi n cap : Nat} {w : World} {b off : Nat} {xs : List Int} (h : SlI lo hi w (.slice (some ⟨b, off, none⟩) n cap) xs) (j : Nat) (hj : j ≤ xs.length) : SlI lo hi w (.slice (some ⟨b, off, none⟩) j cap) (xs.take j) := by
  have h1 := h.sub 0 j (Nat.zero_le _) hj
  simpa using h1
theorem SlI.dropI {lo hi n cap : Nat} {w : World} {b off : Nat} {xs : List Int} (h : SlI lo hi w (.slice (some ⟨b, off, none⟩) n cap) xs) (i : Nat) (hi' : i ≤ xs.length) :
    SlI lo hi w (.slice (if cap = i then some ⟨b, off, none⟩ else some ⟨b, off + i, none⟩) (n - i) (cap - i)) (xs.drop i) := by
  have hn := h.len'
  subst hn
  have hc : xs.length ≤ cap := by obtain ⟨_, _, e, h1, _⟩ := h; injection e with _ _ e; subst e; exact h1
  have h1 := h.sub i xs.length hi' (Nat.le_refl _)
  rw [List.take_of_length_le (by simp)] at h1
  split
  · rename_i hci
    have h0 : xs.length - i = 0 := by omega
    have hx0 : xs.drop i = [] := List.drop_of_length_le (by omega)
    rw [hx0, h0]
    exact ⟨_, _, rfl, Nat.zero_le _, by unfold maxLen; omega, rfl, (fun h => by cases h), fun k hk => by simp [ints] at hk⟩
  · exact h1
theorem below_37 {w3 w4 w5 w6 w7 : World} (h4 : Below w3.heap.size w3 w4) (h5 : Below w4.drew.heap.size w4.drew w5) (h6 : Below w5.heap.size w5 w6) (h7 : Outside w3.heap.size (w3.heap.size + 1) w6 w7) : Below w3.heap.size w3 w7 := by
  have hd : w4.drew.heap.size = w4.heap.size := rfl
  have s4 := h4.size
  have s5 := h5.size
  have s6 := h6.size
  exact Below.outside (((h4.drew).trans (h5.mono (by omega))).trans (h6.mono (by omega))) h7 (Nat.le_refl _) (by omega)

theorem pick_false {w : World} {n : Nat} {a b : Value} {x y : List Int} (h : RdI w a (ruleS n true) ∧ RdI w b (ruleS n false)) (hx : x = ruleS n (!false)) (hy : y = ruleS n false) : RdI w a x ∧ RdI w b y := by subst hx hy; exact h
theorem pick_true {w : World} {n : Nat} {a b : Value} {x y : List Int} (h : RdI w a (ruleS n true) ∧ RdI w b (ruleS n false)) (hx : x = ruleS n (!true)) (hy : y = ruleS n true) : RdI w b x ∧ RdI w a y := by subst hx hy; exact ⟨h.2, h.1⟩

end
end Go.Proofs.Ytoondakdjhhehaa
