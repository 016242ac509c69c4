/-
  Texts of walks and plain lemmas for this seat; no condition.
-/
import Derived.Test.YtipbanhelhidnaaGreatDoorActT
import Derived.Test.YtipbanhelhidnaaGreatDoorRMove
namespace Go.Proofs.YtipbanhelhidnaaGreatDoor
open Go.RowKit

/-- What ReadAct hands back. -/
def rdAc (o : Option Ac) : Value := .tuple #[.agg #[.int .i64 (o.getD zAc).kind, .int .i64 (o.getD zAc).step.which, .bool (o.getD zAc).step.back, .int .i64 (o.getD zAc).step.at_, .int .i64 (o.getD zAc).count], .bool o.isSome]
def deBack (l : List UInt8) : Option Nat := (undig (l.drop 5)).filter fun n => decide (n < 100) && (backT ++ dig2 n == l)
def readAc (l : List UInt8) : Option Ac := match readMv l with
  | some m => some ⟨0, m, 0⟩
  | none => if l == simpleT then some ⟨2, zeroMv, 0⟩ else (deBack l).map fun n => ⟨1, zeroMv, n⟩
theorem deBack_iff (l : List UInt8) (n : Nat) : deBack l = some n ↔ n < 100 ∧ backT ++ dig2 n = l := by
  unfold deBack
  rw [Option.filter_eq_some_iff]
  constructor
  · rintro ⟨_, h⟩
    simpa using h
  · rintro ⟨h1, h2⟩
    subst h2
    refine ⟨?_, by simp [h1]⟩
    rw [List.drop_left' (by rfl)]
    exact undig_dig n h1
theorem deBack_none {l : List UInt8} (h : ∀ n, n < 100 → backT ++ dig2 n ≠ l) : deBack l = none := by
  cases he : deBack l with
  | none => rfl
  | some n => exact absurd ((deBack_iff l n).1 he).2 (h n ((deBack_iff l n).1 he).1)
theorem cut_back : ∀ n, n < 100 → Lib.hasPrefix (backT ++ dig2 n) backT = true ∧ Lib.trimPrefix (backT ++ dig2 n) backT = dig2 n := by decide +kernel
theorem db_no1 {l : List UInt8} (h : Lib.hasPrefix l backT = false) : deBack l = none :=
  deBack_none fun n hn e => by have := (cut_back n hn).1; rw [e, h] at this; cases this
theorem db_no2 {l : List UInt8} (h : atoiV (Lib.trimPrefix l backT) = none) : deBack l = none :=
  deBack_none fun n hn e => by have := (cut_back n hn).2; rw [e] at this; rw [this, atoi_dig n hn] at h; cases h
theorem actBack (n : Int) : actText ⟨1, zeroMv, n⟩ = if 0 ≤ n ∧ n ≤ 99 then backT ++ dig2 n.toNat else [] := by rfl
theorem db_no3 {l : List UInt8} {n : Int} (h : atoiV (Lib.trimPrefix l backT) = some n) (hne : actText ⟨1, zeroMv, n⟩ ≠ l) : deBack l = none :=
  deBack_none fun k hk e => by
    have := (cut_back k hk).2
    rw [e] at this
    rw [this, atoi_dig k hk] at h
    injection h with h
    subst h
    rw [actBack, if_pos (by omega)] at hne
    exact hne e
theorem db_yes {l : List UInt8} {n : Int} (h : actText ⟨1, zeroMv, n⟩ = l) (hl : l ≠ []) : 0 ≤ n ∧ n ≤ 99 ∧ deBack l = some n.toNat := by
  rw [actBack] at h
  split at h
  · rename_i hn
    exact ⟨hn.1, hn.2, (deBack_iff l _).2 ⟨by omega, h⟩⟩
  · exact absurd h.symm hl
theorem mvText_head {m : Mv} {c : UInt8} {r : List UInt8} (h : mvText m = c :: r) : c = 43 ∨ c = 45 := by
  have hk : mvOk m = true := mvText_pos (by rw [h]; simp)
  unfold mvText at h
  rw [if_pos hk] at h
  cases hb : m.back <;> simp [hb] at h <;> simp [← h.1]
theorem readMv_simple : readMv simpleT = none := readMv_none fun m hm e => by
  rcases mvText_head e with h | h <;> cases h
theorem readMv_back {n : Nat} {l : List UInt8} (h : backT ++ dig2 n = l) : readMv l = none := readMv_none fun m hm e => by
  rw [← h] at e
  rcases mvText_head (c := 98) (r := [97, 99, 107, 32] ++ dig2 n) e with h | h <;> cases h
theorem ra_move {l : List UInt8} {m : Mv} (h : readMv l = some m) : readAc l = some ⟨0, m, 0⟩ := by simp [readAc, h]
theorem ra_simple {l : List UInt8} (h : l = simpleT) : readAc l = some ⟨2, zeroMv, 0⟩ := by subst h; simp [readAc, readMv_simple]
theorem ra_none {l : List UInt8} (h1 : readMv l = none) (h2 : (l == simpleT) = false) (h3 : deBack l = none) : readAc l = none := by simp [readAc, h1, h2, h3]
theorem ra_back {l : List UInt8} {n : Nat} (h3 : deBack l = some n) : readAc l = some ⟨1, zeroMv, n⟩ := by
  have h := ((deBack_iff l n).1 h3).2
  have h1 := readMv_back h
  have h2 : (l == simpleT) = false := by
    rw [← h]; rfl
  simp [readAc, h1, h2, h3]

/-- Five stores into a block of five cells. -/
theorem Blk.set5 {g : Nat} {e : TypeId} {w : World} {x0 x1 x2 x3 x4 : Value} (h : Blk g (.cells #[x0, x1, x2, x3, x4] e (0, 0)) w) (a b c d f : Value) :
    Blk g (.cells #[a, b, c, d, f] e (0, 0)) (((((w.setCell ⟨g, 0, none⟩ a).setCell ⟨g, 1, none⟩ b).setCell ⟨g, 2, none⟩ c).setCell ⟨g, 3, none⟩ d).setCell ⟨g, 4, none⟩ f) := by
  have h' : w.heap[g]? = _ := h
  show (((((w.setCell ⟨g, 0, none⟩ a).setCell ⟨g, 1, none⟩ b).setCell ⟨g, 2, none⟩ c).setCell ⟨g, 3, none⟩ d).setCell ⟨g, 4, none⟩ f).heap[g]? = _
  simp [World.setCell, Array.getElem?_modify, h']
theorem Below.set5 {B g : Nat} {a w : World} (h : Below B a w) (hB : B ≤ g) (x y z u v : Value) : Below B a (((((w.setCell ⟨g, 0, none⟩ x).setCell ⟨g, 1, none⟩ y).setCell ⟨g, 2, none⟩ z).setCell ⟨g, 3, none⟩ u).setCell ⟨g, 4, none⟩ v) :=
  ((((h.setCell (p := ⟨g, 0, none⟩) hB x).setCell (p := ⟨g, 1, none⟩) hB y).setCell (p := ⟨g, 2, none⟩) hB z).setCell (p := ⟨g, 3, none⟩) hB u).setCell (p := ⟨g, 4, none⟩) hB v
theorem rdMv_some (m : Mv) : rdMv (some m) = .tuple #[.agg #[.int .i64 m.which, .bool m.back, .int .i64 m.at_], .bool true] := rfl
theorem rdMv_none : rdMv none = .tuple #[.agg #[.int .i64 0, .bool false, .int .i64 0], .bool false] := rfl
theorem rdAc_some (a : Ac) : rdAc (some a) = .tuple #[.agg #[.int .i64 a.kind, .int .i64 a.step.which, .bool a.step.back, .int .i64 a.step.at_, .int .i64 a.count], .bool true] := rfl
theorem rdAc_none : rdAc none = .tuple #[.agg #[.int .i64 0, .int .i64 0, .bool false, .int .i64 0, .int .i64 0], .bool false] := rfl
end Go.Proofs.YtipbanhelhidnaaGreatDoor
