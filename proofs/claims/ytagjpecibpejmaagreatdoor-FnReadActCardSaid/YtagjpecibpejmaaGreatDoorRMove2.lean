/-
  Texts of walks and plain lemmas for this seat; no condition.
-/
import Derived.Test.YtagjpecibpejmaaGreatDoorRMove
import Derived.Test.YtagjpecibpejmaaGreatDoorMText2
import Derived.Deep.RegionWith
namespace Go.Proofs.YtagjpecibpejmaaGreatDoor
open Go.RowKit

/-- No move before (R, A, B) has this text. -/
def Nope (l : List UInt8) (R A B : Nat) : Prop := ∀ m : Mv, mvOk m = true → (m.which < R ∨ (m.which = R ∧ (m.at_ < A ∨ (m.at_ = A ∧ (if m.back then 1 else 0) < B)))) → mvText m ≠ l
theorem Nope.zero (l : List UInt8) : Nope l 0 0 0 := by
  intro m h hlt
  simp [mvOk] at h
  omega
theorem Nope.step {l : List UInt8} {R A B : Nat} (h : Nope l R A B) (hne : mvText ⟨R, (B : Int) == 1, A⟩ ≠ l) (hB : B < 2) : Nope l R A (B + 1) := by
  intro m hm hlt
  by_cases h1 : m.which < R ∨ (m.which = R ∧ (m.at_ < A ∨ (m.at_ = A ∧ (if m.back then 1 else 0) < B)))
  · exact h m hm h1
  · have e : m = ⟨R, (B : Int) == 1, A⟩ := by
      obtain ⟨p, b, q⟩ := m
      simp only at h1 hlt
      have e1 : p = R := by omega
      have e2 : q = A := by omega
      have e3 : (if b = true then 1 else 0) = B := by omega
      subst e1 e2
      congr 1
      subst e3
      cases b <;> rfl
    rw [e]; exact hne
theorem Nope.next {l : List UInt8} {R A : Nat} (h : Nope l R A 2) : Nope l R (A + 1) 0 := by
  intro m hm hlt
  refine h m hm ?_
  have : (if m.back = true then 1 else 0) < 2 := by split <;> omega
  omega
theorem Nope.next2 {l : List UInt8} {R : Nat} (h : Nope l R 40 0) : Nope l (R + 1) 0 0 := by
  intro m hm hlt
  refine h m hm ?_
  simp [mvOk] at hm
  omega
theorem Nope.all {l : List UInt8} (h : Nope l 21 0 0) : readMv l = none :=
  readMv_none fun m hm => h m hm (by simp [mvOk] at hm; omega)
theorem rd_long {l : List UInt8} (h : 6 < l.length) : readMv l = none :=
  readMv_none fun m hm e => by have := mvText_len m; rw [e] at this; omega

set_option maxRecDepth 100000 in
set_option maxHeartbeats 3200000 in
theorem spec_ReadMove (l : List UInt8) (s : ByteArray) (hs : s = ⟨l.toArray⟩) (w : World) (hl : l.length ≤ 2097152) :
    Calls Tryz.prog 80 #[.string s] w fun e w' => e = .returned (rdMv (readMv l)) ∧ Below w.heap.size w w' := by
  subst hs
  have hb0 : Hid (∀ o, Below w.heap.size w (w.alloc o)) := Lib.hid fun o => (Below.refl _ _).alloc (Nat.le_refl _) _
  by_cases h6 : 6 < l.length
  · go_enter Tryz.func80, Tryz.ntmps80
    go_wp2
    rw [rd_long h6]
    refine bodyPost_ret (v := rdMv none) (by simp [results, Tryz.results80, go_sem, rdMv, zeroMv]) rfl ⟨rfl, hb0.out _⟩
  · have K0 : Hid (∀ o, Blk w.heap.size o (w.alloc o)) := Lib.hid fun o => Blk.new w o
    have h6' : l.length ≤ 6 := by omega
    clear h6
    go_enter Tryz.func80, Tryz.ntmps80
    go_wp2
    go_loopw [4] (fun i wr => ∃ R : Nat, R ≤ 21 ∧ i = .int .i64 R ∧ Hid (Nope l R 0 0) ∧ Hid (Blk w.heap.size (.cells #[.int .i64 0, .bool false, .int .i64 0] 43) wr) ∧ Hid (Below w.heap.size w wr)) (fun i _ => 21 - (intOf i).toNat)
    case atStart => exact ⟨0, by omega, rfl, Lib.hid (Nope.zero l), Lib.hid (K0.out _), Lib.hid (hb0.out _)⟩
    case round =>
      obtain ⟨R, hR, rfl, HN, K, HB⟩ := hrel
      by_cases hltR : R < 21
      · go_wp2
        simp only [show decide ((R : Int) < 21) = true from decide_eq_true (by omega)]
        go_loopw [5] (fun i wr => ∃ A : Nat, A ≤ 40 ∧ i = .int .i64 A ∧ Hid (Nope l R A 0) ∧ Hid (Blk w.heap.size (.cells #[.int .i64 0, .bool false, .int .i64 0] 43) wr) ∧ Hid (Below w.heap.size w wr)) (fun i _ => 40 - (intOf i).toNat)
        case atStart => exact ⟨0, by omega, rfl, HN, K, HB⟩
        case round =>
          clear HN K HB
          obtain ⟨A, hA, rfl, HN, K, HB⟩ := hrel
          by_cases hltA : A < 40
          · go_wp2
            simp only [show decide ((A : Int) < 40) = true from decide_eq_true (by omega)]
            go_loopw [6] (fun i wr => ∃ B : Nat, B ≤ 2 ∧ i = .int .i64 B ∧ Hid (Nope l R A B) ∧ Hid (Blk w.heap.size (.cells #[.int .i64 0, .bool false, .int .i64 0] 43) wr) ∧ Hid (Below w.heap.size w wr)) (fun i _ => 2 - (intOf i).toNat)
            case atStart => exact ⟨0, by omega, rfl, HN, K, HB⟩
            case round =>
              clear HN K HB
              obtain ⟨B, hB, rfl, HN, K, HB⟩ := hrel
              by_cases hltB : B < 2
              · go_wp2_with fail
                obtain ⟨bk, hbk⟩ : ∃ bk, bk = ((B : Int) == 1) := ⟨_, rfl⟩
                rw [← hbk]
                obtain ⟨w4, hw4⟩ : ∃ w4, w4 = wr.alloc (.cells #[.int .i64 R, .bool bk, .int .i64 A] 43) := ⟨_, rfl⟩
                rw [← hw4]
                have hb : Below wr.heap.size wr w4 := by rw [hw4]; exact (Below.refl _ _).alloc (Nat.le_refl _) _
                have K4 : Hid (Blk wr.heap.size (.cells #[.int .i64 R, .bool bk, .int .i64 A] 43) w4) := by rw [hw4]; exact Lib.hid (Blk.new _ _)
                replace K := Lib.hid (K.out.below hb K.out.lt)
                have hsz3 := HB.out.size
                replace HB := Lib.hid (HB.out.trans (hb.mono HB.out.size))
                have HBK := Lib.hid hbk
                clear hb hw4 hbk
                refine (spec_MoveText ⟨R, bk, A⟩ _).mono ?_
                rintro e w5 ⟨rfl, hb⟩
                replace K := Lib.hid (K.out.below hb K.out.lt)
                replace K4 := Lib.hid (K4.out.below hb K4.out.lt)
                replace HB := Lib.hid (HB.out.trans (hb.mono HB.out.size))
                clear hb
                have d0 := K4.out.cell 0
                have d1 := K4.out.cell 1
                have d2 := K4.out.cell 2
                cases hq : (mvText ⟨R, bk, A⟩ == l)
                · go_wp2
                  go_roundw
                  case rel => exact ⟨B + 1, by omega, by go_num, Lib.hid (HN.out.step (by rw [← HBK.out]; simpa using hq) hltB), K, HB⟩
                  case measure => simp [intOf]; omega
                · have HR := Lib.hid ((readMv_iff l ⟨R, bk, A⟩).2 ⟨by simp [mvOk]; omega, by simpa using hq⟩)
                  obtain ⟨wz, hwz⟩ : ∃ wz, wz = (((w5.setCell ⟨w.heap.size, 0, none⟩ (.int .i64 R)).setCell ⟨w.heap.size, 1, none⟩ (.bool bk)).setCell ⟨w.heap.size, 2, none⟩ (.int .i64 A)) := ⟨_, rfl⟩
                  have KZ := K.out.set3 (.int .i64 R) (.bool bk) (.int .i64 A)
                  have HZ := Lib.hid (Below.set3 HB.out (Nat.le_refl _) (.int .i64 R) (.bool bk) (.int .i64 A))
                  rw [← hwz] at KZ HZ
                  have q0 := KZ.cell 0
                  have q1 := KZ.cell 1
                  have q2 := KZ.cell 2
                  clear KZ
                  have c0 := K.out.cell 0
                  have c1 := K.out.cell 1
                  have c2 := K.out.cell 2
                  have f0 := K.out.free 0
                  have f1 := K.out.free 1
                  have f2 := K.out.free 2
                  go_wp2
                  simp only [← hwz]
                  clear hwz
                  rw [HR.out]
                  refine bodyPost_ret (v := rdMv (some ⟨R, bk, A⟩)) (by simp [results, Tryz.results80, go_sem, q0, q1, q2, rdMv, zeroMv]) rfl ⟨rfl, HZ.out⟩
              · obtain rfl : B = 2 := by omega
                go_wp2
                go_roundw
                case rel => exact ⟨A + 1, by omega, by go_num, Lib.hid HN.out.next, K, HB⟩
                case measure => simp [intOf]; omega
          · obtain rfl : A = 40 := by omega
            go_wp2
            go_roundw
            case rel => exact ⟨R + 1, by omega, by go_num, Lib.hid HN.out.next2, K, HB⟩
            case measure => simp [intOf]; omega
      · obtain rfl : R = 21 := by omega
        obtain ⟨wz, hwz⟩ : ∃ wz, wz = (((wr.setCell ⟨w.heap.size, 0, none⟩ (.int .i64 0)).setCell ⟨w.heap.size, 1, none⟩ (.bool false)).setCell ⟨w.heap.size, 2, none⟩ (.int .i64 0)) := ⟨_, rfl⟩
        have KZ := K.out.set3 (.int .i64 0) (.bool false) (.int .i64 0)
        have HZ := Lib.hid (Below.set3 HB.out (Nat.le_refl _) (.int .i64 0) (.bool false) (.int .i64 0))
        rw [← hwz] at KZ HZ
        have q0 := KZ.cell 0
        have q1 := KZ.cell 1
        have q2 := KZ.cell 2
        clear KZ
        have c0 := K.out.cell 0
        have c1 := K.out.cell 1
        have c2 := K.out.cell 2
        have f0 := K.out.free 0
        have f1 := K.out.free 1
        have f2 := K.out.free 2
        go_wp2
        simp only [← hwz]
        clear hwz
        rw [Nope.all HN.out]
        refine bodyPost_ret (v := rdMv none) (by simp [results, Tryz.results80, go_sem, q0, q1, q2, rdMv, zeroMv]) rfl ⟨rfl, HZ.out⟩
end Go.Proofs.YtagjpecibpejmaaGreatDoor
