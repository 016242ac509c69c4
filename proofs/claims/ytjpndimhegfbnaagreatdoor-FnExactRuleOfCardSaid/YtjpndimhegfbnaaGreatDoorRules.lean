/-
  Texts of walks and plain lemmas for this seat; no condition.
-/
import Derived.Test.YtjpndimhegfbnaaGreatDoorParse
import Derived.Test.YtjpndimhegfbnaaGreatDoorBRepl
import Derived.Test.YtjpndimhegfbnaaGreatDoorIsAct
import Derived.Test.YtjpndimhegfbnaaGreatDoorShelf
namespace Go.Proofs.YtjpndimhegfbnaaGreatDoor
open Go.RowKit

/-- Letters stand for actions as they are read. -/
def toVar (x : Int) : Int := if isActB x then -1 - (x - 16) else x
/-- The rules' texts. -/
def ruleT : List (List UInt8) := [
  [40, 120, 43, 121, 41, 43, 122, 61, 120, 43, 40, 121, 43, 122, 41],
  [120, 43, 121, 61, 121, 43, 120],
  [120, 43, 120, 61, 120],
  [120, 43, 48, 61, 120],
  [40, 120, 59, 121, 41, 59, 122, 61, 120, 59, 40, 121, 59, 122, 41],
  [49, 59, 120, 61, 120],
  [120, 59, 49, 61, 120],
  [48, 59, 120, 61, 48],
  [120, 59, 48, 61, 48],
  [120, 59, 40, 121, 43, 122, 41, 61, 120, 59, 121, 43, 120, 59, 122],
  [40, 120, 43, 121, 41, 59, 122, 61, 120, 59, 122, 43, 121, 59, 122],
  [49, 43, 120, 59, 120, 42, 61, 120, 42],
  [49, 43, 120, 42, 59, 120, 61, 120, 42],
  [40, 120, 59, 121, 41, 42, 59, 120, 61, 120, 59, 40, 121, 59, 120, 41, 42],
  [40, 120, 43, 121, 41, 42, 61, 120, 42, 59, 40, 121, 59, 120, 42, 41, 42],
  [120, 42, 42, 61, 120, 42],
  [120, 42, 59, 120, 42, 61, 120, 42],
  [48, 42, 61, 49],
  [49, 42, 61, 49],
  [40, 49, 43, 120, 41, 42, 61, 120, 42],
  [120, 43, 120, 59, 121, 42, 61, 120, 59, 121, 42]]
/-- A side of a rule: the left one (true), or the right one. -/
def sideT (n : Nat) (l : Bool) : List UInt8 := if l then (Lib.cut (ruleT.getD n []) [61]).1 else (Lib.cut (ruleT.getD n []) [61]).2.1
def parseS (txt : List UInt8) : Option (List Int) :=
  match sumP txt.length (txt.map repl8) with
  | some (e, []) => if katV e then some e else none
  | _ => none
/-- The side of a rule. -/
def ruleS (n : Nat) (l : Bool) : List Int := ((parseS (sideT n l)).getD []).map toVar
theorem sides_parse : ∀ n, n < 21 → ∀ l, (parseS (sideT n l)).isSome = true ∧ (sideT n l).length ≤ 20 := by decide +kernel
theorem ruleT_len : ∀ n, n < 21 → (ruleT.getD n []).length ≤ 30 := by decide +kernel
theorem side_open {n : Nat} (h : n < 21) (l : Bool) : ∃ e, sumP (sideT n l).length ((sideT n l).map repl8) = some (e, []) ∧ katV e = true ∧ ruleS n l = e.map toVar ∧ (sideT n l).length ≤ 20 := by
  obtain ⟨h1, h2⟩ := sides_parse n h l
  obtain ⟨e, he⟩ := Option.isSome_iff_exists.1 h1
  refine ⟨e, ?_, ?_, by simp [ruleS, he], h2⟩
  all_goals
    unfold parseS at he
    split at he
    · rename_i e' heq
      split at he
      · injection he with he
        subst he
        assumption
      · cases he
    · cases he

/-- The rules' texts lie in memory. -/
def RuleE (w : World) : Prop := ∃ rb off cap, w.cell? ⟨0, 0, none⟩ = some (.slice (some ⟨rb, off, none⟩) 21 cap) ∧ ∀ j, j < 21 → w.cell? ⟨rb, off + j, none⟩ = some (.string ⟨(ruleT.getD j []).toArray⟩)
theorem RuleE.below {w w' : World} (h : RuleE w) (hb : Below w.heap.size w w') : RuleE w' := by
  obtain ⟨rb, off, cap, h1, h2⟩ := h
  exact ⟨rb, off, cap, (hb.cell (World.block_lt_of_cell? w _ h1)).trans h1, fun j hj => (hb.cell (World.block_lt_of_cell? w _ (h2 j hj))).trans (h2 j hj)⟩
def Most (w : World) : Prop := ∃ m, w.cell? ⟨2, 0, none⟩ = some (.int .i64 m)
theorem Most.below {w w' : World} (h : Most w) (hb : Below w.heap.size w w') : Most w' := by
  obtain ⟨m, h⟩ := h
  exact ⟨m, (hb.cell (World.block_lt_of_cell? w _ h)).trans h⟩
/-- What the program's variables hold. -/
structure EnvK (w : World) : Prop where
  map : MapT w
  rules : RuleE w
  most : Most w
theorem EnvK.below {w w' : World} (h : EnvK w) (hb : Below w.heap.size w w') : EnvK w' := ⟨h.map.below hb, h.rules.below hb, h.most.below hb⟩
theorem CutM_any (l p : List UInt8) (s sep : ByteArray) (hs : s = ⟨l.toArray⟩) (hp : sep = ⟨p.toArray⟩) (w : World) (hE : Most w) (hl : l.length ≤ 2097152) :
    Calls Tryz.prog 97 #[.string s, .string sep] w fun e w' => e = .returned (.tuple #[.string ⟨(Lib.cut l p).1.toArray⟩, .string ⟨(Lib.cut l p).2.1.toArray⟩, .bool (Lib.cut l p).2.2]) ∧ Below w.heap.size w w' := by
  subst hs hp
  obtain ⟨m, hm⟩ := hE
  refine (Tryz.strings_Cut ⟨l.toArray⟩ ⟨p.toArray⟩ m w (by show l.toArray.size < _; simp; omega) hm).mono ?_
  rintro e w' ⟨rfl, n, rfl⟩
  exact ⟨rfl, below_drewN (Below.refl _ _) _⟩
end Go.Proofs.YtjpndimhegfbnaaGreatDoor
