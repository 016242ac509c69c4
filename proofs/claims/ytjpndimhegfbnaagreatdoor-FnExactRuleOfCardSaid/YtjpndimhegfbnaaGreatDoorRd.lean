/-
  Texts of walks and plain lemmas for this seat; no condition.
-/
import Derived.Test.YtjpndimhegfbnaaGreatDoorBase
import Derived.Test.YtjpndimhegfbnaaGreatDoorRows
import Derived.Test.YtjpndimhegfbnaaGreatDoorL1In
import Derived.Test.YtjpndimhegfbnaaGreatDoorBits
import Derived.Lib.FrozenHead2
import Derived.Deep.QuietTactic
import Derived.BigQuiet
import Derived.Deep.RegionWith
namespace Go.Proofs.YtjpndimhegfbnaaGreatDoor
open Go.RowKit

/-- The reader of a draw, at block g: it has read at most c times. -/
def Rd (g : Nat) (w : World) (c : Nat) : Prop :=
  ∃ (a : Option Addr) (cap p : Nat) (xs : List Int), w.heap[g]? = some (.cells #[.slice a xs.length cap, .int .i64 p] 121 (0, 0)) ∧ p ≤ c ∧ xs.length ≤ 2000 ∧
    (∀ x ∈ xs, 0 ≤ x ∧ x ≤ 255) ∧ Sl 1 0 g w (.slice a xs.length cap) xs.length (xs.map (Value.int .u8))

theorem Rd.mono {g c c' : Nat} {w : World} (h : Rd g w c) (hc : c ≤ c') : Rd g w c' := by
  obtain ⟨a, cap, p, xs, h1, h2, h3⟩ := h
  exact ⟨a, cap, p, xs, h1, by omega, h3⟩
theorem Rd.lt {g c : Nat} {w : World} (h : Rd g w c) : g < w.heap.size := by
  obtain ⟨a, cap, p, xs, h1, _⟩ := h
  exact (Array.getElem?_eq_some_iff.1 h1).1
theorem Rd.keep {g c : Nat} {w w' : World} (h : Rd g w c) (hs : w.heap.size ≤ w'.heap.size) (hb : ∀ k, k ≤ g → w'.heap[k]? = w.heap[k]?) : Rd g w' c := by
  obtain ⟨a, cap, p, xs, h1, h2, h3, h4, h5⟩ := h
  refine ⟨a, cap, p, xs, by rw [hb g (Nat.le_refl _)]; exact h1, h2, h3, h4, ?_⟩
  obtain ⟨a', cap', e1, e2, e3, e4, e5, e6⟩ := h5
  refine ⟨a', cap', e1, e2, e3, e4, e5, fun i hi => ?_⟩
  obtain ⟨b, off, f1, f2, f3, f4, f5⟩ := e6 i hi
  exact ⟨b, off, f1, f2, f3, by omega, by rw [World.cell?_of_block (w := w) (a := ⟨b, off + i, none⟩) (hb b (by omega))]; exact f5⟩
theorem Rd.below {g c B : Nat} {w w' : World} (h : Rd g w c) (hb : Below B w w') (hB : g < B) : Rd g w' c :=
  h.keep hb.size fun k hk => hb.block k (by omega)
theorem Rd.outside {g c lo hi : Nat} {w w' : World} (h : Rd g w c) (hb : Outside lo hi w w') (hB : g < lo) : Rd g w' c := by
  have := h.lt
  exact h.keep hb.size fun k hk => hb.block k (by omega) (by omega)

def SlB (lo hi : Nat) (w : World) (v : Value) (xs : List Int) : Prop := Sl 1 lo hi w v xs.length (xs.map (Value.int .u8)) ∧ ∀ x ∈ xs, 0 ≤ x ∧ x ≤ 255
theorem Sl.get {lo hi n cap sz : Nat} {w : World} {a : Option Addr} {cs : List Value} (h : Sl sz lo hi w (.slice a n cap) n cs) (i : Nat) (hi' : i < cs.length) :
    ∃ b off, a = some ⟨b, off, none⟩ ∧ lo ≤ b ∧ b < hi ∧ b < w.heap.size ∧ w.cell? ⟨b, off + i, none⟩ = cs[i]? := by
  obtain ⟨a', cap', e, _, _, _, _, hc⟩ := h
  injection e with e1 _ _
  subst e1
  exact hc i hi'
theorem Sl.getByte {lo hi n cap : Nat} {w : World} {a : Option Addr} {xs : List Int} (h : Sl 1 lo hi w (.slice a n cap) n (xs.map (Value.int .u8))) (hx : ∀ x ∈ xs, 0 ≤ x ∧ x ≤ 255) (i : Nat) (hi' : i < xs.length) :
    ∃ b off x, a = some ⟨b, off, none⟩ ∧ b < hi ∧ b < w.heap.size ∧ w.cell? ⟨b, off + i, none⟩ = some (.int .u8 x) ∧ 0 ≤ x ∧ x ≤ 255 := by
  obtain ⟨b, off, e, _, e2, e3, e4⟩ := h.get i (by simpa using hi')
  exact ⟨b, off, xs[i], e, e2, e3, by rw [e4]; simp [hi'], hx _ (List.getElem_mem hi')⟩

def InR (n x : Int) : Prop := 0 ≤ x ∧ (x < n ∨ x = 0)

set_option maxHeartbeats 800000 in
theorem pick_any (g c : Nat) (n : Int) (w : World) (h : Rd g w c) (hc : c ≤ 1000000000000) :
    Calls Tryz.prog 100 #[.pointer (some ⟨g, 0, none⟩), .int .i64 n] w (RetI fun x w' => InR n x ∧ Outside g (g + 1) w w' ∧ Rd g w' (c + 1)) := by
  have hg := h.lt
  obtain ⟨a, cap, p, xs, h1, h2, h3, h4, h5⟩ := h
  have c0 : w.cell? ⟨g, 0, none⟩ = some (.slice a xs.length cap) := by rw [Lib.cell_of_heap h1]; rfl
  have c1 : w.cell? ⟨g, 1, none⟩ = some (.int .i64 p) := by rw [Lib.cell_of_heap h1]; rfl
  have f1 : w.frozen? ⟨g, 1, none⟩ = false := Lib.frozen_of_heap h1 1
  have HR : ∀ m, Hid (Outside g (g + 1) w ((w.setCell ⟨g, 1, none⟩ (.int .i64 (p + 1))).drewN m) ∧ Rd g ((w.setCell ⟨g, 1, none⟩ (.int .i64 (p + 1))).drewN m) (c + 1)) := by
    intro m
    have ho : Outside g (g + 1) w (w.setCell ⟨g, 1, none⟩ (.int .i64 (p + 1))) := (Outside.refl _ _ _).setCell (p := ⟨g, 1, none⟩) (Nat.le_refl _) (Nat.lt_succ_self _) _
    refine Lib.hid ⟨⟨ho.os, ho.tape, ho.output, ho.size, ho.block⟩, a, cap, p + 1, xs, ?_, by omega, h3, h4, ?_⟩
    · show (w.setCell ⟨g, 1, none⟩ (.int .i64 (p + 1))).heap[g]? = _
      simp [World.setCell, Array.getElem?_modify, h1]
    · have := h5.outside ho (.inl (Nat.le_refl _))
      exact this
  clear h1
  by_cases hn : n < 1
  · go_enter Tryz.func100, Tryz.ntmps100
    go_wp2
    go_ret
    exact RetI.mk 0 rfl ⟨⟨by omega, .inr rfl⟩, (HR 0).out⟩
  · by_cases hl : xs.length = 0
    · have hl' : ((xs.length : Int) == 0) = true := by simp [hl]
      clear hl
      go_enter Tryz.func100, Tryz.ntmps100
      go_wp2
      go_ret
      exact RetI.mk 0 rfl ⟨⟨by omega, .inr rfl⟩, (HR 0).out⟩
    · have hl' : ((xs.length : Int) == 0) = false := by simp [hl]
      by_cases hk : p < xs.length
      · obtain ⟨b, off, x, rfl, hb1, hb2, hcell, hx1, hx2⟩ := h5.getByte h4 p hk
        clear h5
        go_enter Tryz.func100, Tryz.ntmps100
        go_wp2
        go_ret
        exact RetI.mk (x % n) rfl ⟨⟨Int.emod_nonneg _ (by omega), .inl (Int.emod_lt_of_pos _ (by omega))⟩, (HR 0).out⟩
      · obtain ⟨b, off, x, rfl, hb1, hb2, hcell, hx1, hx2⟩ := h5.getByte h4 (p % xs.length) (Nat.mod_lt _ (by omega))
        obtain ⟨q, hq, hq2⟩ : ∃ q : Nat, ((p : Int) * 7 + 3) % (xs.length : Int) = (q : Int) ∧ q < xs.length :=
          ⟨(p * 7 + 3) % xs.length, by rw [Int.natCast_emod]; simp, Nat.mod_lt _ (by omega)⟩
        obtain ⟨b', off', y, e, hb1', hb2', hcell', hy1, hy2⟩ := h5.getByte h4 q hq2
        injection e with e; injection e with e1 e2; subst e1 e2
        have hm1 : p % xs.length < xs.length := (Nat.mod_lt _ (by omega))
        obtain ⟨z, hz, hz1, hz2⟩ : ∃ z : Int, (p : Int) / (xs.length : Int) = z ∧ 0 ≤ z ∧ z ≤ p :=
          ⟨_, rfl, Int.ediv_nonneg (by omega) (by omega), Int.ediv_le_self _ (by omega)⟩
        clear h5
        go_enter Tryz.func100, Tryz.ntmps100
        go_wp2
        go_quiet (fail)
        go_wp2
        go_ret
        have hb := bits64_xor_pos (x * 131 + y * 1117 + (p : Int) * 29 + z * 53) ((x * 131 + y * 1117 + (p : Int) * 29 + z * 53) / 64) (by omega) (by omega) (by omega) (by omega)
        exact RetI.mk _ rfl ⟨⟨Int.tmod_nonneg _ hb, .inl (Int.tmod_lt_of_pos _ (by omega))⟩, (HR _).out⟩

set_option maxHeartbeats 800000 in
theorem l20Open_any (v : Value) (xs : List Int) (w : World) (h : SlB 0 w.heap.size w v xs) :
    Calls Tryz.prog 73 #[v] w (RetV fun x w' => ∃ g, x = .pointer (some ⟨g, 0, none⟩) ∧ w.heap.size ≤ g ∧ Below w.heap.size w w' ∧ Rd g w' 0) := by
  obtain ⟨⟨a, cap, rfl, hcap, hcm, hlen0, hnone, hc⟩, hx⟩ := h
  unfold maxLen at hcm
  by_cases hl : xs.length ≤ 2000
  · have HR : Hid (Rd w.heap.size (w.alloc (.cells #[.slice a xs.length cap, .int .i64 0] 121)) 0) := by
      have hb : Below w.heap.size w (w.alloc (.cells #[.slice a xs.length cap, .int .i64 0] 121)) := (Below.refl _ _).alloc (Nat.le_refl _) _
      exact Lib.hid ⟨a, cap, 0, xs, heap_alloc_new w _, Nat.le_refl _, hl, hx, Sl.below ⟨a, cap, rfl, hcap, hcm, hlen0, hnone, hc⟩ hb (Nat.le_refl _)⟩
    clear hx hc hnone hlen0
    go_enter Tryz.func73, Tryz.ntmps73
    go_wp2
    go_ret
    exact RetV.mk _ rfl ⟨_, rfl, Nat.le_refl _, (Below.refl _ _).alloc (Nat.le_refl _) _, HR.out⟩
  · obtain ⟨b, off, rfl, hb0, hb1, hb2, _⟩ := hc 0 (by simp; omega)
    have hsl : Sl 1 0 w.heap.size w (.slice (some ⟨b, off, none⟩) 2000 cap) 2000 ((xs.take 2000).map (Value.int .u8)) := by
      refine ⟨_, cap, rfl, by omega, by unfold maxLen; exact hcm, by simp; omega, (by intro h; cases h), fun i hi => ?_⟩
      obtain ⟨b', off', e, h1, h2, h3, h4⟩ := hc i (by simp at hi ⊢; omega)
      refine ⟨b', off', e, h1, h2, h3, ?_⟩
      rw [h4]
      simp at hi
      simp [hi]
    have hlen : (xs.take 2000).length = 2000 := by simp; omega
    have HR : Hid (Rd w.heap.size (w.alloc (.cells #[.slice (some ⟨b, off, none⟩) 2000 cap, .int .i64 0] 121)) 0) := by
      have hb : Below w.heap.size w (w.alloc (.cells #[.slice (some ⟨b, off, none⟩) 2000 cap, .int .i64 0] 121)) := (Below.refl _ _).alloc (Nat.le_refl _) _
      refine Lib.hid ⟨some ⟨b, off, none⟩, cap, 0, xs.take 2000, by rw [hlen]; exact heap_alloc_new w _, Nat.le_refl _, by omega, fun x hx' => hx x (List.mem_of_mem_take hx'), ?_⟩
      rw [hlen]
      exact Sl.below hsl hb (Nat.le_refl _)
    clear hx hc hnone hlen hsl hlen0
    go_enter Tryz.func73, Tryz.ntmps73
    go_wp2
    go_ret
    exact RetV.mk _ rfl ⟨_, rfl, Nat.le_refl _, (Below.refl _ _).alloc (Nat.le_refl _) _, HR.out⟩
end Go.Proofs.YtjpndimhegfbnaaGreatDoor
