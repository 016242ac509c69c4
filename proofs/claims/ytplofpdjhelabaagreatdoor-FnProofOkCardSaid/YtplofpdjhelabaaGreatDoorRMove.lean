/-
  Texts of walks and plain lemmas for this seat; no condition.
-/
import Derived.Test.YtplofpdjhelabaaGreatDoorMvRead
import Derived.Test.YtplofpdjhelabaaGreatDoorEnv
import Derived.Test.YtplofpdjhelabaaGreatDoorGA
import Derived.Deep.RegionWith
namespace Go.Proofs.YtplofpdjhelabaaGreatDoor
open Go.RowKit

def zeroMv : Mv := ⟨0, false, 0⟩
/-- What ReadMove hands back. -/
def rdMv (o : Option Mv) : Value := .tuple #[.agg #[.int .i64 (o.getD zeroMv).which, .bool (o.getD zeroMv).back, .int .i64 (o.getD zeroMv).at_], .bool o.isSome]

theorem cut_dig : ∀ p, p < 21 → ∀ q, q < 40 → Lib.cut (dig2 p ++ [64] ++ dig2 q) [64] = (dig2 p, dig2 q, true) := by decide +kernel
theorem atoi_dig : ∀ n, n < 100 → atoiV (dig2 n) = some (n : Int) := by decide +kernel
/-- The text of a move, taken apart as ReadMove does. -/
theorem mvText_parts {m : Mv} (h : mvOk m = true) : ∃ c r, mvText m = c :: r ∧ atoiV (Lib.cut r [64]).1 = some m.which ∧ atoiV (Lib.cut r [64]).2.1 = some m.at_ ∧ (c == 45) = m.back := by
  obtain ⟨p, q, hp, hq, e⟩ := mvOk_nat h
  have ht : mvText m = (if m.back then [45] else [43]) ++ dig2 p ++ [64] ++ dig2 q := by
    unfold mvText; rw [if_pos h, e]; simp
  have hc := cut_dig p (by omega) q (by omega)
  refine ⟨if m.back then 45 else 43, dig2 p ++ [64] ++ dig2 q, ?_, ?_, ?_, ?_⟩
  · rw [ht]; cases m.back <;> simp
  · rw [hc]; rw [e]; exact atoi_dig p (by omega)
  · rw [hc]; rw [e]; exact atoi_dig q (by omega)
  · cases m.back <;> rfl

theorem rd_nil : readMv [] = none := readMv_none fun _ h e => mvText_of h e
theorem rd_bad1 {c : UInt8} {r : List UInt8} (h : atoiV (Lib.cut r [64]).1 = none) : readMv (c :: r) = none :=
  readMv_none fun m hm e => by
    obtain ⟨c', r', h1, h2, _⟩ := mvText_parts hm
    rw [e] at h1; injection h1 with _ h1; subst h1
    rw [h] at h2; cases h2
theorem rd_bad2 {c : UInt8} {r : List UInt8} (h : atoiV (Lib.cut r [64]).2.1 = none) : readMv (c :: r) = none :=
  readMv_none fun m hm e => by
    obtain ⟨c', r', h1, _, h2, _⟩ := mvText_parts hm
    rw [e] at h1; injection h1 with _ h1; subst h1
    rw [h] at h2; cases h2
theorem rd_yes {c : UInt8} {r : List UInt8} {m : Mv} (h : mvText m = c :: r) : readMv (c :: r) = some m :=
  (readMv_iff _ _).2 ⟨mvText_pos (by rw [h]; simp), h⟩
theorem rd_no {c : UInt8} {r : List UInt8} {a b : Int} (h1 : atoiV (Lib.cut r [64]).1 = some a) (h2 : atoiV (Lib.cut r [64]).2.1 = some b) (h : mvText ⟨a, c == 45, b⟩ ≠ c :: r) : readMv (c :: r) = none :=
  readMv_none fun m hm e => by
    obtain ⟨c', r', g1, g2, g3, g4⟩ := mvText_parts hm
    rw [e] at g1; injection g1 with g0 g1; subst g0 g1
    rw [h1] at g2; rw [h2] at g3
    injection g2 with g2; injection g3 with g3
    obtain ⟨p, b', q⟩ := m
    simp only at g2 g3 g4
    subst g2 g3 g4
    exact h e

theorem cut_len (l p : List UInt8) : (Lib.cut l p).1.length ≤ l.length ∧ (Lib.cut l p).2.1.length ≤ l.length := by
  unfold Lib.cut
  split <;> simp
  omega

theorem ext1 (c : UInt8) (r : List UInt8) : ByteArray.extract ⟨(c :: r).toArray⟩ 1 (r.length + 1) = ⟨r.toArray⟩ := by
  apply ByteArray.ext
  simp [ByteArray.data_extract]

theorem idx0 (c : UInt8) (r : List UInt8) (h : 0 < (ByteArray.mk (c :: r).toArray).size) : (ByteArray.mk (c :: r).toArray)[0]'h = c := rfl
theorem eq45 (c : UInt8) : ((c.toNat : Int) == 45) = (c == 45) := by
  rw [Bool.eq_iff_iff]
  simp only [beq_iff_eq]
  constructor
  · intro h; apply UInt8.toNat_inj.1; simpa using (by omega : c.toNat = 45)
  · intro h; subst h; rfl

/-- Three stores into a block of three cells. -/
theorem Blk.set3 {g : Nat} {e : TypeId} {w : World} {x0 x1 x2 : Value} (h : Blk g (.cells #[x0, x1, x2] e (0, 0)) w) (a b c : Value) :
    Blk g (.cells #[a, b, c] e (0, 0)) (((w.setCell ⟨g, 0, none⟩ a).setCell ⟨g, 1, none⟩ b).setCell ⟨g, 2, none⟩ c) := by
  have h' : w.heap[g]? = _ := h
  show (((w.setCell ⟨g, 0, none⟩ a).setCell ⟨g, 1, none⟩ b).setCell ⟨g, 2, none⟩ c).heap[g]? = _
  simp [World.setCell, Array.getElem?_modify, h']
theorem Below.set3 {B g : Nat} {a w : World} (h : Below B a w) (hB : B ≤ g) (x y z : Value) : Below B a (((w.setCell ⟨g, 0, none⟩ x).setCell ⟨g, 1, none⟩ y).setCell ⟨g, 2, none⟩ z) :=
  ((h.setCell (p := ⟨g, 0, none⟩) hB x).setCell (p := ⟨g, 1, none⟩) hB y).setCell (p := ⟨g, 2, none⟩) hB z
end Go.Proofs.YtplofpdjhelabaaGreatDoor
