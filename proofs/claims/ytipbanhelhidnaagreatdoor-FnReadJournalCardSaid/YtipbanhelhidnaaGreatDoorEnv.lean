/-
  Texts of walks and plain lemmas for this seat; no condition.
-/
import Derived.Test.YtipbanhelhidnaaGreatDoorGA
import Derived.Test.YtipbanhelhidnaaGreatDoorRows
import Derived.Test.YtipbanhelhidnaaGreatDoorShelf
import Derived.Stop.LaidErr
import Derived.Lib.AtoiAllCases
import Derived.LaidLaws
import Derived.Shelf.Vars
import Derived.Lib.SmallJoins
namespace Go.Proofs.YtipbanhelhidnaaGreatDoor
open Go.RowKit

/-- What the library's variables hold, as far as ReadMove asks it. -/
structure Env (w : World) : Prop where
  most : ∃ m, w.cell? ⟨1, 0, none⟩ = some (.int .i64 m)
  syn : ∃ a b, w.cell? ⟨2, 0, none⟩ = some (.iface a b)
  rng : ∃ a b, w.cell? ⟨3, 0, none⟩ = some (.iface a b)
theorem Env.below {w w' : World} (h : Env w) (hb : Below w.heap.size w w') : Env w' := by
  obtain ⟨⟨m, h1⟩, ⟨a, b, h2⟩, ⟨c, d, h3⟩⟩ := h
  exact ⟨⟨m, (hb.cell (World.block_lt_of_cell? w _ h1)).trans h1⟩, ⟨a, b, (hb.cell (World.block_lt_of_cell? w _ h2)).trans h2⟩, ⟨c, d, (hb.cell (World.block_lt_of_cell? w _ h3)).trans h3⟩⟩

theorem star : "*" ++ "errors.errorString" = "*errors.errorString" := by decide
theorem rowErr (u : TypeId) (h : Tryz.prog.typeName? 3 u = some "*errors.errorString") : u = 208 :=
  typeName_ptr_named (nm := "errors.errorString") (by rw [star]; kernel_rfl) (by kernel_rfl) (by decide) u (by rw [star]; exact h)
theorem most_of {w : World} (h : w.ShapedOpen Tryz.prog) : ∃ m, w.cell? ⟨1, 0, none⟩ = some (.int .i64 m) :=
  cell_of_shapedOpen_int (zero := #[.int .i64 0]) (t := 3) h (of_decide_eq_true (by kernel_rfl)) (by kernel_rfl) rfl (by kernel_rfl) (by kernel_rfl) Tryz.underlying3
theorem err_of {n : String} {text : List UInt8} {r : List (String × DataW Unit)} {W : World} {g : Nat} (h : laidMet Tryz.prog ((n, .iface "*errors.errorString" (.ptr (.agg [.lit (.string text)]))) :: r) W) (hg : Tryz.prog.globalNamed n = some g)
    (ht : (Tryz.prog.globals[g]?).map (·.type) = some 75) : ∃ a b, W.cell? ⟨g, 0, none⟩ = some (.iface a b) := by
  obtain ⟨a0, t0, hv0, hc0, ht0, _⟩ := laid_sentinel (g := g) h hg ht Tryz.underlying75 rowErr Tryz.underlying208 Tryz.underlying210 rfl rfl Tryz.underlying9 (by kernel_rfl) (by kernel_rfl)
  exact ⟨_, _, by simpa using World.var?_cell hg hv0 0⟩

/-- What Atoi tells of a text: its number, if it has one. -/
def atoiV (l : List UInt8) : Option Int := match Lib.atoiAll l with | .ok v => some v | _ => none

theorem Atoi_ok (l : List UInt8) (s : ByteArray) (hs : s = ⟨l.toArray⟩) (v : Int) (w : World) (hl : l.length ≤ 2097152) (h : atoiV l = some v) :
    Calls Tryz.prog 46 #[.string s] w fun e w' => e = .returned (.tuple #[.int .i64 v, .nilIface]) ∧ Below w.heap.size w w' := by
  subst hs
  have h' : Lib.atoiAll l = .ok v := by
    unfold atoiV at h
    split at h
    · rename_i he; rw [he]; simpa using h
    · cases h
  refine (Tryz.strconv_Atoi_ok ⟨l.toArray⟩ (by show l.toArray.size ≤ _; simp; omega) v h' w).mono ?_
  rintro e w' ⟨rfl, rfl | ⟨t, rfl⟩⟩
  · exact ⟨rfl, Below.refl _ _⟩
  · exact ⟨rfl, Lib.bytesWorld_below _ _ _⟩

/-- A number and an error. -/
def RetNE (P : World → Prop) (e : Ending) (w' : World) : Prop := ∃ n t p, e = .returned (.tuple #[.int .i64 n, .iface t p]) ∧ P w'
theorem Atoi_bad (l : List UInt8) (s : ByteArray) (hs : s = ⟨l.toArray⟩) (w : World) (hE : Env w) (hl : l.length ≤ 2097152) (h : atoiV l = none) :
    Calls Tryz.prog 46 #[.string s] w (RetNE fun w' => Below w.heap.size w w') := by
  subst hs
  have hz : (⟨l.toArray⟩ : ByteArray).size ≤ 281474976710656 := by show l.toArray.size ≤ _; simp; omega
  cases h' : Lib.atoiAll l with
  | ok v => simp [atoiV, h'] at h
  | «syntax» =>
    obtain ⟨a, b, hv⟩ := hE.syn
    refine (Tryz.strconv_Atoi_syntax ⟨l.toArray⟩ hz h' _ w hv (.inr ⟨a, b, rfl⟩)).mono ?_
    rintro e w' ⟨N, rfl, _, _, hb⟩
    exact ⟨_, _, _, rfl, hb⟩
  | range =>
    obtain ⟨a, b, hv⟩ := hE.rng
    refine (Tryz.strconv_Atoi_range ⟨l.toArray⟩ hz h' _ w hv (.inr ⟨a, b, rfl⟩)).mono ?_
    rintro e w' ⟨N, rfl, _, _, hb⟩
    exact ⟨_, _, _, rfl, hb⟩

theorem Cut_any (l p : List UInt8) (s sep : ByteArray) (hs : s = ⟨l.toArray⟩) (hp : sep = ⟨p.toArray⟩) (w : World) (hE : Env w) (hl : l.length ≤ 2097152) :
    Calls Tryz.prog 21 #[.string s, .string sep] w fun e w' => e = .returned (.tuple #[.string ⟨(Lib.cut l p).1.toArray⟩, .string ⟨(Lib.cut l p).2.1.toArray⟩, .bool (Lib.cut l p).2.2]) ∧ Below w.heap.size w w' := by
  subst hs hp
  obtain ⟨m, hm⟩ := hE.most
  refine (Tryz.strings_Cut ⟨l.toArray⟩ ⟨p.toArray⟩ m w (by show l.toArray.size < _; simp; omega) hm).mono ?_
  rintro e w' ⟨rfl, n, rfl⟩
  exact ⟨rfl, below_drewN (Below.refl _ _) _⟩
end Go.Proofs.YtipbanhelhidnaaGreatDoor
