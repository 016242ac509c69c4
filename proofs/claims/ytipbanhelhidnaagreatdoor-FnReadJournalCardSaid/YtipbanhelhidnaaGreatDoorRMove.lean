/-
  Texts of walks and plain lemmas for this seat; no condition.
-/
import Derived.Test.YtipbanhelhidnaaGreatDoorMvRead
import Derived.Test.YtipbanhelhidnaaGreatDoorEnv
import Derived.Test.YtipbanhelhidnaaGreatDoorGA
import Derived.Deep.RegionWith
namespace Go.Proofs.YtipbanhelhidnaaGreatDoor
open Go.RowKit

def zeroMv : Mv := ⟨0, false, 0⟩
/-- What ReadMove hands back. -/
def rdMv (o : Option Mv) : Value := .tuple #[.agg #[.int .i64 (o.getD zeroMv).which, .bool (o.getD zeroMv).back, .int .i64 (o.getD zeroMv).at_], .bool o.isSome]

theorem cut_dig : ∀ p, p < 21 → ∀ q, q < 40 → Lib.cut (dig2 p ++ [64] ++ dig2 q) [64] = (dig2 p, dig2 q, true) := by decide +kernel
theorem atoi_dig : ∀ n, n < 100 → atoiV (dig2 n) = some (n : Int) := by decide +kernel
/-- The text of a move, taken apart as ReadMove does. -/
theorem mvText_parts {m : Mv} (h : mvOk m = true) : ∃ c r, mvText m = c :: r ∧ atoiV (Lib.cut r [64]).1 = some m.which ∧ atoiV (Lib.cut r [64]).2.1 = some m.at_ ∧ (c == 45) = m.back := by
  obtain ⟨p, q, hp, hq, e⟩ := mvOk_nat h
  have ht : mvText m = (if m.back then [45] else [43]) ++ dig2 p ++ [64] ++ dig2 q := by
    unfold mvText; rw [if_pos h, e]; simp
  have hc := cut_dig p (by omega) q (by omega)
  refine ⟨if m.back then 45 else 43, dig2 p ++ [64] ++ dig2 q, ?_, ?_, ?_, ?_⟩
  · rw [ht]; cases m.back <;> simp
  · rw [hc]; rw [e]; exact atoi_dig p (by omega)
  · rw [hc]; rw [e]; exact atoi_dig q (by omega)
  · cases m.back <;> rfl

theorem rd_nil : readMv [] = none := readMv_none fun _ h e => mvText_of h e
theorem rd_bad1 {c : UInt8} {r : List UInt8} (h : atoiV (Lib.cut r [64]).1 = none) : readMv (c :: r) = none :=
  readMv_none fun m hm e => by
    obtain ⟨c', r', h1, h2, _⟩ := mvText_parts hm
    rw [e] at h1; injection h1 with _ h1; subst h1
    rw [h] at h2; cases h2
theorem rd_bad2 {c : UInt8} {r : List UInt8} (h : atoiV (Lib.cut r [64]).2.1 = none) : readMv (c :: r) = none :=
  readMv_none fun m hm e => by
    obtain ⟨c', r', h1, _, h2, _⟩ := mvText_parts hm
    rw [e] at h1; injection h1 with _ h1; subst h1
    rw [h] at h2; cases h2
theorem rd_yes {c : UInt8} {r : List UInt8} {m : Mv} (h : mvText m = c :: r) : readMv (c :: r) = some m :=
  (readMv_iff _ _).2 ⟨mvText_pos (by rw [h]; simp), h⟩
theorem rd_no {c : UInt8} {r : List UInt8} {a b : Int} (h1 : atoiV (Lib.cut r [64]).1 = some a) (h2 : atoiV (Lib.cut r [64]).2.1 = some b) (h : mvText ⟨a, c == 45, b⟩ ≠ c :: r) : readMv (c :: r) = none :=
  readMv_none fun m hm e => by
    obtain ⟨c', r', g1, g2, g3, g4⟩ := mvText_parts hm
    rw [e] at g1; injection g1 with g0 g1; subst g0 g1
    rw [h1] at g2; rw [h2] at g3
    injection g2 with g2; injection g3 with g3
    obtain ⟨p, b', q⟩ := m
    simp only at g2 g3 g4
    subst g2 g3 g4
    exact h e

theorem cut_len (l p : List UInt8) : (Lib.cut l p).1.length ≤ l.length ∧ (Lib.cut l p).2.1.length ≤ l.length := by
  unfold Lib.cut
  split <;> simp
  omega

theorem ext1 (c : UInt8) (r : List UInt8) : ByteArray.extract ⟨(c :: r).toArray⟩ 1 (r.length + 1) = ⟨r.toArray⟩ := by
  apply ByteArray.ext
  simp [ByteArray.data_extract]

theorem idx0 (c : UInt8) (r : List UInt8) (h : 0 < (ByteArray.mk (c :: r).toArray).size) : (ByteArray.mk (c :: r).toArray)[0]'h = c := rfl
theorem eq45 (c : UInt8) : ((c.toNat : Int) == 45) = (c == 45) := by
  rw [Bool.eq_iff_iff]
  simp only [beq_iff_eq]
  constructor
  · intro h; apply UInt8.toNat_inj.1; simpa using (by omega : c.toNat = 45)
  · intro h; subst h; rfl

/-- Three stores into a block of three cells. -/
theorem Blk.set3 {g : Nat} {e : TypeId} {w : World} {x0 x1 x2 : Value} (h : Blk g (.cells #[x0, x1, x2] e (0, 0)) w) (a b c : Value) :
    Blk g (.cells #[a, b, c] e (0, 0)) (((w.setCell ⟨g, 0, none⟩ a).setCell ⟨g, 1, none⟩ b).setCell ⟨g, 2, none⟩ c) := by
  have h' : w.heap[g]? = _ := h
  show (((w.setCell ⟨g, 0, none⟩ a).setCell ⟨g, 1, none⟩ b).setCell ⟨g, 2, none⟩ c).heap[g]? = _
  simp [World.setCell, Array.getElem?_modify, h']
theorem Below.set3 {B g : Nat} {a w : World} (h : Below B a w) (hB : B ≤ g) (x y z : Value) : Below B a (((w.setCell ⟨g, 0, none⟩ x).setCell ⟨g, 1, none⟩ y).setCell ⟨g, 2, none⟩ z) :=
  ((h.setCell (p := ⟨g, 0, none⟩) hB x).setCell (p := ⟨g, 1, none⟩) hB y).setCell (p := ⟨g, 2, none⟩) hB z

set_option maxRecDepth 100000 in
set_option maxHeartbeats 3200000 in
theorem impl_ReadMove (l : List UInt8) (s : ByteArray) (hs : s = ⟨l.toArray⟩) (w : World) (hE : Env w) (hl : l.length ≤ 2097152) :
    Calls Tryz.prog 44 #[.string s] w fun e w' => e = .returned (rdMv (readMv l)) ∧ Below w.heap.size w w' := by
  subst hs
  have hb0 : Hid (∀ o, Below w.heap.size w (w.alloc o)) := Lib.hid fun o => (Below.refl _ _).alloc (Nat.le_refl _) _
  cases l with
  | nil =>
    go_enter Tryz.func44, Tryz.ntmps44
    go_wp2
    rw [rd_nil]
    refine bodyPost_ret (v := rdMv none) (by simp [results, Tryz.results44, go_sem, rdMv, zeroMv]) rfl ⟨rfl, hb0.out _⟩
  | cons c r =>
    obtain ⟨w0, hw0⟩ : ∃ w0, w0 = w.alloc (.cells #[.int .i64 0, .bool false, .int .i64 0] 39) := ⟨_, rfl⟩
    have HB : Hid (Below w.heap.size w w0) := by rw [hw0]; exact hb0.out _ |> Lib.hid
    have K : Hid (Blk w.heap.size (.cells #[.int .i64 0, .bool false, .int .i64 0] 39) w0) := by rw [hw0]; exact Lib.hid (Blk.new w _)
    have HE : Hid (Env w0) := by rw [hw0]; exact Lib.hid (hE.below (hb0.out _))
    obtain ⟨hc1, hc2⟩ := cut_len r [64]
    have hr : r.length ≤ 2097151 := by simpa using hl
    clear hE hb0
    go_enter Tryz.func44, Tryz.ntmps44
    go_wp2_with fail
    simp only [← hw0]
    clear hw0
    refine (Cut_any r [64] _ _ (ext1 c r) rfl _ HE.out (by omega)).mono ?_
    rintro e w1 ⟨rfl, hb⟩
    replace HE := Lib.hid (HE.out.below hb)
    replace K := Lib.hid (K.out.below hb K.out.lt)
    replace HB := Lib.hid (HB.out.trans (hb.mono HB.out.size))
    clear hb
    obtain ⟨p1, hp1⟩ : ∃ p, p = (Lib.cut r [64]).1 := ⟨_, rfl⟩
    obtain ⟨p2, hp2⟩ : ∃ p, p = (Lib.cut r [64]).2.1 := ⟨_, rfl⟩
    obtain ⟨p3, hp3⟩ : ∃ p, p = (Lib.cut r [64]).2.2 := ⟨_, rfl⟩
    rw [← hp1, ← hp2, ← hp3]
    rw [← hp1] at hc1
    rw [← hp2] at hc2
    have HP1 := Lib.hid hp1
    have HP2 := Lib.hid hp2
    clear hp1 hp2 hp3
    cases ha : atoiV p1 with
    | none =>
      have HR := Lib.hid (rd_bad1 (c := c) (r := r) (by rw [← HP1.out]; exact ha))
      go_wp2_with fail
      refine (Atoi_bad p1 _ rfl _ HE.out (by omega) ha).mono ?_
      rintro e w2 ⟨n, t, p, rfl, hb⟩
      replace K := Lib.hid (K.out.below hb K.out.lt)
      replace HB := Lib.hid (HB.out.trans (hb.mono HB.out.size))
      clear hb ha
      obtain ⟨wz, hwz⟩ : ∃ wz, wz = (((w2.setCell ⟨w.heap.size, 0, none⟩ (.int .i64 0)).setCell ⟨w.heap.size, 1, none⟩ (.bool false)).setCell ⟨w.heap.size, 2, none⟩ (.int .i64 0)) := ⟨_, rfl⟩
      have KZ := K.out.set3 (.int .i64 0) (.bool false) (.int .i64 0)
      have HZ := Lib.hid (Below.set3 HB.out (Nat.le_refl _) (.int .i64 0) (.bool false) (.int .i64 0))
      rw [← hwz] at KZ HZ
      have q0 := KZ.cell 0
      have q1 := KZ.cell 1
      have q2 := KZ.cell 2
      clear KZ
      have c0 := K.out.cell 0
      have c1 := K.out.cell 1
      have c2 := K.out.cell 2
      have f0 := K.out.free 0
      have f1 := K.out.free 1
      have f2 := K.out.free 2
      go_wp2
      simp only [← hwz]
      clear hwz
      rw [HR.out]
      refine bodyPost_ret (v := rdMv none) (by simp [results, Tryz.results44, go_sem, q0, q1, q2, rdMv, zeroMv]) rfl ⟨rfl, HZ.out⟩
    | some a =>
      go_wp2_with fail
      refine (Atoi_ok p1 _ rfl a _ (by omega) ha).mono ?_
      rintro e w2 ⟨rfl, hb⟩
      replace HE := Lib.hid (HE.out.below hb)
      replace K := Lib.hid (K.out.below hb K.out.lt)
      replace HB := Lib.hid (HB.out.trans (hb.mono HB.out.size))
      have HA := Lib.hid ha
      clear hb ha
      cases ha : atoiV p2 with
      | none =>
        have HR := Lib.hid (rd_bad2 (c := c) (r := r) (by rw [← HP2.out]; exact ha))
        go_wp2_with fail
        refine (Atoi_bad p2 _ rfl _ HE.out (by omega) ha).mono ?_
        rintro e w3 ⟨n, t, p, rfl, hb⟩
        replace K := Lib.hid (K.out.below hb K.out.lt)
        replace HB := Lib.hid (HB.out.trans (hb.mono HB.out.size))
        clear hb ha
        obtain ⟨wz, hwz⟩ : ∃ wz, wz = (((w3.setCell ⟨w.heap.size, 0, none⟩ (.int .i64 0)).setCell ⟨w.heap.size, 1, none⟩ (.bool false)).setCell ⟨w.heap.size, 2, none⟩ (.int .i64 0)) := ⟨_, rfl⟩
        have KZ := K.out.set3 (.int .i64 0) (.bool false) (.int .i64 0)
        have HZ := Lib.hid (Below.set3 HB.out (Nat.le_refl _) (.int .i64 0) (.bool false) (.int .i64 0))
        rw [← hwz] at KZ HZ
        have q0 := KZ.cell 0
        have q1 := KZ.cell 1
        have q2 := KZ.cell 2
        clear KZ
        have c0 := K.out.cell 0
        have c1 := K.out.cell 1
        have c2 := K.out.cell 2
        have f0 := K.out.free 0
        have f1 := K.out.free 1
        have f2 := K.out.free 2
        go_wp2
        simp only [← hwz]
        clear hwz
        rw [HR.out]
        refine bodyPost_ret (v := rdMv none) (by simp [results, Tryz.results44, go_sem, q0, q1, q2, rdMv, zeroMv]) rfl ⟨rfl, HZ.out⟩
      | some b =>
        go_wp2_with fail
        refine (Atoi_ok p2 _ rfl b _ (by omega) ha).mono ?_
        rintro e w3 ⟨rfl, hb⟩
        replace HE := Lib.hid (HE.out.below hb)
        replace K := Lib.hid (K.out.below hb K.out.lt)
        replace HB := Lib.hid (HB.out.trans (hb.mono HB.out.size))
        have HA2 := Lib.hid ha
        clear hb ha
        go_wp2_with fail
        simp only [idx0, eq45]
        obtain ⟨bk, hbk⟩ : ∃ bk, bk = (c == 45) := ⟨_, rfl⟩
        rw [← hbk]
        obtain ⟨w4, hw4⟩ : ∃ w4, w4 = w3.alloc (.cells #[.int .i64 a, .bool bk, .int .i64 b] 39) := ⟨_, rfl⟩
        rw [← hw4]
        have hb : Below w3.heap.size w3 w4 := by rw [hw4]; exact (Below.refl _ _).alloc (Nat.le_refl _) _
        have K4 : Hid (Blk w3.heap.size (.cells #[.int .i64 a, .bool bk, .int .i64 b] 39) w4) := by rw [hw4]; exact Lib.hid (Blk.new _ _)
        replace K := Lib.hid (K.out.below hb K.out.lt)
        have hsz3 := HB.out.size
        replace HB := Lib.hid (HB.out.trans (hb.mono HB.out.size))
        have HBK := Lib.hid hbk
        clear hb hw4 hbk HE
        refine (impl_MoveText ⟨a, bk, b⟩ _).mono ?_
        rintro e w5 ⟨rfl, hb⟩
        replace K := Lib.hid (K.out.below hb K.out.lt)
        replace K4 := Lib.hid (K4.out.below hb K4.out.lt)
        replace HB := Lib.hid (HB.out.trans (hb.mono HB.out.size))
        clear hb
        have d0 := K4.out.cell 0
        have d1 := K4.out.cell 1
        have d2 := K4.out.cell 2
        cases hq : (mvText ⟨a, bk, b⟩ == c :: r)
        · have HR := Lib.hid (rd_no (c := c) (r := r) (by rw [← HP1.out]; exact HA.out) (by rw [← HP2.out]; exact HA2.out) (by rw [← HBK.out]; simpa using hq))
          obtain ⟨wz, hwz⟩ : ∃ wz, wz = (((w5.setCell ⟨w.heap.size, 0, none⟩ (.int .i64 0)).setCell ⟨w.heap.size, 1, none⟩ (.bool false)).setCell ⟨w.heap.size, 2, none⟩ (.int .i64 0)) := ⟨_, rfl⟩
          have KZ := K.out.set3 (.int .i64 0) (.bool false) (.int .i64 0)
          have HZ := Lib.hid (Below.set3 HB.out (Nat.le_refl _) (.int .i64 0) (.bool false) (.int .i64 0))
          rw [← hwz] at KZ HZ
          have q0 := KZ.cell 0
          have q1 := KZ.cell 1
          have q2 := KZ.cell 2
          clear KZ
          have c0 := K.out.cell 0
          have c1 := K.out.cell 1
          have c2 := K.out.cell 2
          have f0 := K.out.free 0
          have f1 := K.out.free 1
          have f2 := K.out.free 2
          go_wp2
          simp only [← hwz]
          clear hwz
          rw [HR.out]
          refine bodyPost_ret (v := rdMv none) (by simp [results, Tryz.results44, go_sem, q0, q1, q2, rdMv, zeroMv]) rfl ⟨rfl, HZ.out⟩
        · have HR := Lib.hid (rd_yes (c := c) (r := r) (m := ⟨a, bk, b⟩) (by simpa using hq))
          obtain ⟨wz, hwz⟩ : ∃ wz, wz = (((w5.setCell ⟨w.heap.size, 0, none⟩ (.int .i64 a)).setCell ⟨w.heap.size, 1, none⟩ (.bool bk)).setCell ⟨w.heap.size, 2, none⟩ (.int .i64 b)) := ⟨_, rfl⟩
          have KZ := K.out.set3 (.int .i64 a) (.bool bk) (.int .i64 b)
          have HZ := Lib.hid (Below.set3 HB.out (Nat.le_refl _) (.int .i64 a) (.bool bk) (.int .i64 b))
          rw [← hwz] at KZ HZ
          have q0 := KZ.cell 0
          have q1 := KZ.cell 1
          have q2 := KZ.cell 2
          clear KZ
          have c0 := K.out.cell 0
          have c1 := K.out.cell 1
          have c2 := K.out.cell 2
          have f0 := K.out.free 0
          have f1 := K.out.free 1
          have f2 := K.out.free 2
          go_wp2
          simp only [← hwz]
          clear hwz
          rw [HR.out]
          refine bodyPost_ret (v := rdMv (some ⟨a, bk, b⟩)) (by simp [results, Tryz.results44, go_sem, q0, q1, q2, rdMv, zeroMv]) rfl ⟨rfl, HZ.out⟩
end Go.Proofs.YtipbanhelhidnaaGreatDoor
