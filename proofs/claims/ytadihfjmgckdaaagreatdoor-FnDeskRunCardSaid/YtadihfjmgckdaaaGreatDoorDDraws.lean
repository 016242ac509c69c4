/-
  Texts of walks and plain lemmas for this seat; no condition.
-/
import Derived.Test.YtadihfjmgckdaaaGreatDoorDActs
import Derived.Test.YtadihfjmgckdaaaGreatDoorAct3
import Derived.Test.YtadihfjmgckdaaaGreatDoorJournal
import Derived.Deep.RegionWith
import Derived.Deep.DrawnRows
namespace Go.Proofs.YtadihfjmgckdaaaGreatDoor
open Go.RowKit

/-- A block that holds no byte may be written: the reader reads on. -/
theorem Rd.past {g c s : Nat} {w w' : World} {cs : Array Value} {T : TypeId} {f : Nat × Nat} (h : Rd g w c) (hk : Blk s (.cells cs T f) w) (hn : ∀ (j : Nat) (x : Int), cs[j]? ≠ some (.int .u8 x)) (ho : Outside s (s + 1) w w') (hs : s ≠ g) : Rd g w' c := by
  have hg := h.lt
  obtain ⟨a, cap, p, xs, h1, h2, h3, h4, a', cap', e, e1, e2, e3, e4, e5⟩ := h
  refine ⟨a, cap, p, xs, (ho.block g hg (by omega)).trans h1, h2, h3, h4, a', cap', e, e1, e2, e3, e4, fun i hi => ?_⟩
  obtain ⟨b, off, k1, k2, k3, k4, k5⟩ := e5 i hi
  have hb : b ≠ s := by
    intro hb
    subst hb
    rw [hk.cell] at k5
    have hi' : i < xs.length := by simpa using hi
    refine hn (off + i) xs[i] ?_
    rw [k5]
    simp [hi']
  refine ⟨b, off, k1, k2, k3, Nat.lt_of_lt_of_le k4 ho.size, ?_⟩
  rw [World.cell?_of_block (w := w) (a := ⟨b, off + i, none⟩) (ho.block b k4 (by omega))]
  exact k5
theorem nil_no : ∀ (j : Nat) (x : Int), (#[.slice none 0 0, .slice none 0 0, .slice none 0 0, .slice none 0 0] : Array Value)[j]? ≠ some (.int .u8 x) := by
  intro j x h
  match j with
  | 0 => simp at h
  | 1 => simp at h
  | 2 => simp at h
  | 3 => simp at h
  | j + 4 => simp at h
/-- A string comes back. -/
def RetSt (P : ByteArray → World → Prop) (e : Ending) (w' : World) : Prop := ∃ s : ByteArray, e = .returned (.string s) ∧ P s w'
theorem six_str (z : Nat) (h : z < 6) : ∃ s : ByteArray, (#[.string ⟨#[]⟩, .string ⟨#[48]⟩, .string ⟨#[32]⟩, .string ⟨#[10]⟩, .string ⟨#[64]⟩, .string ⟨#[115, 105, 109, 112, 108, 101]⟩] : Array Value)[z]? = some (.string s) ∧ s.size ≤ 6 := by
  match z, h with
  | 0, _ => exact ⟨_, rfl, by decide⟩
  | 1, _ => exact ⟨_, rfl, by decide⟩
  | 2, _ => exact ⟨_, rfl, by decide⟩
  | 3, _ => exact ⟨_, rfl, by decide⟩
  | 4, _ => exact ⟨_, rfl, by decide⟩
  | 5, _ => exact ⟨_, rfl, by decide⟩
end Go.Proofs.YtadihfjmgckdaaaGreatDoor
