/-
  Texts of walks and plain lemmas for this seat; no condition.
-/
import Derived.Test.YtipbanhelhidnaaGreatDoorAcs
import Derived.Test.YtipbanhelhidnaaGreatDoorAct3
import Derived.Test.YtipbanhelhidnaaGreatDoorBldS
import Derived.Deep.RegionWith
namespace Go.Proofs.YtipbanhelhidnaaGreatDoor
open Go.RowKit

/-- The text of a journal's acts, no matter whether each has one. -/
def jrGo (l : List Ac) : List UInt8 := l.flatMap fun a => actText a ++ [10]
def jrOk (l : List Ac) : Bool := l.all fun a => !(actText a).isEmpty
def jrText (l : List Ac) : List UInt8 := if jrOk l then jrGo l else []
theorem jrGo_take (xs : List Ac) (k : Nat) (h : k < xs.length) : jrGo (xs.take (k + 1)) = jrGo (xs.take k) ++ (actText xs[k] ++ [10]) := by
  rw [jrGo, jrGo, List.take_add_one, List.getElem?_eq_getElem h, List.flatMap_append]; simp
theorem jrOk_no {xs : List Ac} {k : Nat} (h : k < xs.length) (he : actText xs[k] = []) : jrOk xs = false := by
  rw [jrOk, List.all_eq_false]
  exact ⟨_, List.getElem_mem h, by simp [he]⟩
theorem jrOk_yes {xs : List Ac} (h : ∀ j (h : j < xs.length), actText xs[j] ≠ []) : jrOk xs = true := by
  rw [jrOk, List.all_eq_true]
  intro a ha
  obtain ⟨i, hi, rfl⟩ := List.getElem_of_mem ha
  simp [h i hi]
theorem actText_len (a : Ac) : (actText a).length ≤ 7 := by
  unfold actText
  have h1 := mvText_len a.step
  have h2 := dig2_len a.count.toNat
  repeat' split
  all_goals simp [backT, simpleT]
  all_goals omega
end Go.Proofs.YtipbanhelhidnaaGreatDoor
