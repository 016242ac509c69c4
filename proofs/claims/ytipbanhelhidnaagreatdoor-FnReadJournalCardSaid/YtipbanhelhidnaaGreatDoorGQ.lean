/-
  Texts of walks and plain lemmas for this seat; no condition.
-/
import Derived.Test.YtipbanhelhidnaaGreatDoorGS
import Derived.Test.YtipbanhelhidnaaGreatDoorGA
import Derived.Test.YtipbanhelhidnaaGreatDoorDKat
import Derived.Test.YtipbanhelhidnaaGreatDoorGE
import Derived.Test.YtipbanhelhidnaaGreatDoorGB
import Derived.Deep.DeepCutAuto
import Derived.Deep.RegionHeld3
import Derived.Deep.DrawnRows
namespace Go.Proofs.YtipbanhelhidnaaGreatDoor
open Go.RowKit
section

end

section
/-- A slice of slices of ints. -/
def SlLL (lo hi : Nat) (w : World) (v : Value) (xss : List (List Int)) : Prop :=
  ∃ a cap, v = .slice a xss.length cap ∧ xss.length ≤ cap ∧ cap ≤ maxLen ∧ ∀ i (h : i < xss.length), ∃ b off u, a = some ⟨b, off, none⟩ ∧ lo ≤ b ∧ b < hi ∧ b < w.heap.size ∧ w.cell? ⟨b, off + i, none⟩ = some u ∧ SlI lo hi w u xss[i]
theorem SlLL.below {lo hi B : Nat} {w w' : World} {v : Value} {xss : List (List Int)} (h : SlLL lo hi w v xss) (hb : Below B w w') (hB : hi ≤ B) : SlLL lo hi w' v xss := by
  obtain ⟨a, cap, e, h1, h2, h3⟩ := h
  refine ⟨a, cap, e, h1, h2, fun i hi' => ?_⟩
  obtain ⟨b, off, u, e1, e2, e3, e4, e5, e6⟩ := h3 i hi'
  exact ⟨b, off, u, e1, e2, e3, Nat.lt_of_lt_of_le e4 hb.size, (hb.cell (p := ⟨b, off + i, none⟩) (Nat.lt_of_lt_of_le e3 hB)).trans e5, e6.below hb hB⟩
theorem SlLL.outside {lo hi lo' hi' : Nat} {w w' : World} {v : Value} {xss : List (List Int)} (h : SlLL lo hi w v xss) (hb : Outside lo' hi' w w') (hd : hi ≤ lo' ∨ hi' ≤ lo) : SlLL lo hi w' v xss := by
  obtain ⟨a, cap, e, h1, h2, h3⟩ := h
  refine ⟨a, cap, e, h1, h2, fun i hi' => ?_⟩
  obtain ⟨b, off, u, e1, e2, e3, e4, e5, e6⟩ := h3 i hi'
  exact ⟨b, off, u, e1, e2, e3, Nat.lt_of_lt_of_le e4 hb.size, by rw [World.cell?_of_block (w := w) (a := ⟨b, off + i, none⟩) (hb.block b e4 (by omega))]; exact e5, e6.outside hb hd⟩
theorem SlLL.wide {lo hi lo' hi' : Nat} {w : World} {v : Value} {xss : List (List Int)} (h : SlLL lo hi w v xss) (h1 : lo' ≤ lo) (h2 : hi ≤ hi') : SlLL lo' hi' w v xss := by
  obtain ⟨a, cap, e, k1, k2, h3⟩ := h
  refine ⟨a, cap, e, k1, k2, fun i hi' => ?_⟩
  obtain ⟨b, off, u, e1, e2, e3, e4, e5, e6⟩ := h3 i hi'
  exact ⟨b, off, u, e1, by omega, by omega, e4, e5, e6.wide h1 h2⟩
theorem SlLL.get {lo hi n cap : Nat} {w : World} {a : Option Addr} {xss : List (List Int)} (h : SlLL lo hi w (.slice a n cap) xss) (i : Nat) (hi' : i < xss.length) :
    ∃ b off u, a = some ⟨b, off, none⟩ ∧ lo ≤ b ∧ b < hi ∧ b < w.heap.size ∧ w.cell? ⟨b, off + i, none⟩ = some u ∧ SlI lo hi w u xss[i] := by
  obtain ⟨a', cap', e, _, _, h3⟩ := h
  injection e with e1 _ _
  subst e1
  exact h3 i hi'
theorem SlLL.shape {lo hi : Nat} {w : World} {v : Value} {xss : List (List Int)} (h : SlLL lo hi w v xss) : ∃ a cap, v = .slice a xss.length cap ∧ xss.length ≤ cap ∧ cap ≤ maxLen := by
  obtain ⟨a, cap, e, h1, h2, _⟩ := h
  exact ⟨a, cap, e, h1, h2⟩
end

section

end

section

end

section

end

section

end

section

end

section

end

section

/-- What is known of a valid model in memory. -/
structure MoOk (n p q : Nat) (acts : List (List Int)) : Prop where
  n1 : 1 ≤ n
  n5 : n ≤ 5
  p2 : p < 2 ^ n
  q2 : q < 2 ^ n
  len : acts.length = 3
  rows : ∀ k (h : k < acts.length), rowsB (n : Int) acts[k] = true
theorem MoOk.small {n p q : Nat} {acts : List (List Int)} (h : MoOk n p q acts) : p < 1099511627776 ∧ q < 1099511627776 := by
  have h5 : 2 ^ n ≤ 2 ^ 5 := Nat.pow_le_pow_right (by omega) h.n5
  have := h.p2
  have := h.q2
  omega
end

section


end

section

end
end Go.Proofs.YtipbanhelhidnaaGreatDoor
