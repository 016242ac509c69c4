/-
  Texts of walks and plain lemmas for this seat; no condition.
-/
import Derived.Test.YtagjpecibpejmaaGreatDoorRAct
import Derived.Test.YtagjpecibpejmaaGreatDoorAct3
import Derived.Test.YtagjpecibpejmaaGreatDoorRMove2
import Derived.Deep.RegionWith
namespace Go.Proofs.YtagjpecibpejmaaGreatDoor
open Go.RowKit

/-- No number below n makes this text. -/
def NopeB (l : List UInt8) (n : Nat) : Prop := ∀ k, k < n → k < 100 → backT ++ dig2 k ≠ l
theorem NopeB.step {l : List UInt8} {n : Nat} (h : NopeB l n) (hne : actText ⟨1, zeroMv, n⟩ ≠ l) (hn : n < 100) : NopeB l (n + 1) := by
  intro k hk h1
  by_cases hlt : k < n
  · exact h k hlt h1
  · obtain rfl : k = n := by omega
    rw [actBack, if_pos (by omega)] at hne
    exact hne
theorem NopeB.all {l : List UInt8} (h : NopeB l 100) : deBack l = none := deBack_none fun k hk => h k hk hk
theorem db_other {l : List UInt8} (h : l.length ≤ 4 ∨ l.head? ≠ some 98) : deBack l = none := deBack_none fun n hn e => by
  subst e
  rcases h with h | h
  · simp [backT] at h
  · exact h rfl
theorem ra_rest {l : List UInt8} (h2 : (l == simpleT) = false) (h3 : deBack l = none) : readAc l = (readMv l).map fun m => ⟨0, m, 0⟩ := by
  cases h : readMv l with
  | some m => rw [ra_move h]; rfl
  | none => rw [ra_none h h2 h3]; rfl
theorem eq98 (c : UInt8) : ((c.toNat : Int) == 98) = (c == 98) := by
  rw [Bool.eq_iff_iff]
  simp only [beq_iff_eq]
  constructor
  · intro h; apply UInt8.toNat_inj.1; simpa using (by omega : c.toNat = 98)
  · intro h; subst h; rfl
theorem rdAc_map (o : Option Mv) : ∃ m ok, m = o.getD zeroMv ∧ ok = o.isSome ∧ rdMv o = .tuple #[.agg #[.int .i64 m.which, .bool m.back, .int .i64 m.at_], .bool ok] ∧ rdAc (o.map fun m => ⟨0, m, 0⟩) = .tuple #[.agg #[.int .i64 0, .int .i64 m.which, .bool m.back, .int .i64 m.at_, .int .i64 0], .bool ok] :=
  ⟨_, _, rfl, rfl, rfl, by cases o <;> rfl⟩

set_option maxRecDepth 100000 in
set_option maxHeartbeats 3200000 in
theorem spec_ReadAct (l : List UInt8) (s : ByteArray) (hs : s = ⟨l.toArray⟩) (w : World) (hl : l.length ≤ 2097152) :
    Calls Tryz.prog 38 #[.string s] w fun e w' => e = .returned (rdAc (readAc l)) ∧ Below w.heap.size w w' := by
  subst hs
  obtain ⟨w0, hw0⟩ : ∃ w0, w0 = w.alloc (.cells #[.int .i64 0, .int .i64 0, .bool false, .int .i64 0, .int .i64 0] 51) := ⟨_, rfl⟩
  have HB : Hid (Below w.heap.size w w0) := by rw [hw0]; exact Lib.hid ((Below.refl _ _).alloc (Nat.le_refl _) _)
  have K : Hid (Blk w.heap.size (.cells #[.int .i64 0, .int .i64 0, .bool false, .int .i64 0, .int .i64 0] 51) w0) := by rw [hw0]; exact Lib.hid (Blk.new w _)
  cases hsm : l == simpleT with
  | true =>
    have HR := Lib.hid (ra_simple (l := l) (by simpa using hsm))
    have hsm' : (l == [115, 105, 109, 112, 108, 101]) = true := hsm
    clear hsm
    go_enter Tryz.func38, Tryz.ntmps38
    go_wp2
    rw [HR.out]
    refine bodyPost_ret (v := rdAc (some ⟨2, zeroMv, 0⟩)) (by simp [results, Tryz.results38, go_sem, rdAc, zeroMv]) rfl ⟨rfl, (Below.refl _ _).alloc (Nat.le_refl _) _⟩
  | false =>
    have hsm' : (l == [115, 105, 109, 112, 108, 101]) = false := hsm
    have HSM := Lib.hid hsm
    clear hsm
    by_cases hgood : 4 < l.length ∧ l.head? = some 98
    · obtain ⟨h4, h98⟩ := hgood
      obtain ⟨r, rfl⟩ : ∃ r, l = 98 :: r := by
        cases l with
        | nil => simp at h98
        | cons c r => simp at h98; exact ⟨r, by rw [h98]⟩
      have hr4 : 4 ≤ r.length := by simp at h4; omega
      clear h98 h4
      go_enter Tryz.func38, Tryz.ntmps38
      go_wp2_with fail
      simp only [← hw0]
      clear hw0
      go_loopw [4] (fun i wr => ∃ n : Nat, n ≤ 100 ∧ i = .int .i64 n ∧ Hid (NopeB (98 :: r) n) ∧ Hid (Blk w.heap.size (.cells #[.int .i64 0, .int .i64 0, .bool false, .int .i64 0, .int .i64 0] 51) wr) ∧ Hid (Below w.heap.size w wr)) (fun i _ => 100 - (intOf i).toNat)
      case atStart => exact ⟨0, by omega, rfl, Lib.hid (by intro k hk; omega), K, HB⟩
      case round =>
        clear HB K
        obtain ⟨n, hn, rfl, HN, K, HB⟩ := hrel
        by_cases hlt : n < 100
        · go_wp2_with fail
          refine (spec_ActText ⟨1, zeroMv, n⟩ _).mono ?_
          rintro e w5 ⟨rfl, hb⟩
          replace K := Lib.hid (K.out.below hb K.out.lt)
          replace HB := Lib.hid (HB.out.trans (hb.mono HB.out.size))
          clear hb
          cases hq : (actText ⟨1, zeroMv, n⟩ == 98 :: r)
          · go_wp2
            go_roundw
            case rel => exact ⟨n + 1, by omega, by go_num, Lib.hid (HN.out.step (by simpa using hq) hlt), K, HB⟩
            case measure => simp [intOf]; omega
          · have HR : Hid (readAc (98 :: r) = some ⟨1, zeroMv, n⟩) := by
              obtain ⟨g1, g2, g3⟩ := db_yes (n := n) (l := 98 :: r) (by simpa using hq) (by simp)
              exact Lib.hid (ra_back g3)
            obtain ⟨wz, hwz⟩ : ∃ wz, wz = (((((w5.setCell ⟨w.heap.size, 0, none⟩ (.int .i64 1)).setCell ⟨w.heap.size, 1, none⟩ (.int .i64 0)).setCell ⟨w.heap.size, 2, none⟩ (.bool false)).setCell ⟨w.heap.size, 3, none⟩ (.int .i64 0)).setCell ⟨w.heap.size, 4, none⟩ (.int .i64 n)) := ⟨_, rfl⟩
            have KZ := K.out.set5 (.int .i64 1) (.int .i64 0) (.bool false) (.int .i64 0) (.int .i64 n)
            have HZ := Lib.hid (Below.set5 HB.out (Nat.le_refl _) (.int .i64 1) (.int .i64 0) (.bool false) (.int .i64 0) (.int .i64 n))
            rw [← hwz] at KZ HZ
            have q0 := KZ.cell 0
            have q1 := KZ.cell 1
            have q2 := KZ.cell 2
            have q3 := KZ.cell 3
            have q4 := KZ.cell 4
            clear KZ
            have c0 := K.out.cell 0
            have f0 := K.out.free 0
            have c1 := K.out.cell 1
            have f1 := K.out.free 1
            have c2 := K.out.cell 2
            have f2 := K.out.free 2
            have c3 := K.out.cell 3
            have f3 := K.out.free 3
            have c4 := K.out.cell 4
            have f4 := K.out.free 4
            go_wp2
            simp only [← hwz]
            clear hwz
            rw [HR.out]
            refine bodyPost_ret (v := rdAc (some ⟨1, zeroMv, n⟩)) (by simp [results, Tryz.results38, go_sem, q0, q1, q2, q3, q4, rdAc, zeroMv]) rfl ⟨rfl, HZ.out⟩
        · obtain rfl : n = 100 := by omega
          have HR := Lib.hid (ra_rest HSM.out HN.out.all)
          go_wp2_with fail
          obtain ⟨m, ok, hm, hok, hq1, hq2⟩ := rdAc_map (readMv (98 :: r))
          have HQ1 := Lib.hid hq1
          have HQ2 := Lib.hid hq2
          clear hm hok hq1 hq2
          refine (spec_ReadMove (98 :: r) _ rfl _ hl).mono ?_
          rintro e w6 ⟨rfl, hb⟩
          rw [HQ1.out]
          replace K := Lib.hid (K.out.below hb K.out.lt)
          replace HB := Lib.hid (HB.out.trans (hb.mono HB.out.size))
          clear hb
          have hb : Below w6.heap.size w6 (w6.alloc (.cells #[.int .i64 m.which, .bool m.back, .int .i64 m.at_] 43)) := (Below.refl _ _).alloc (Nat.le_refl _) _
          replace K := Lib.hid (K.out.below hb K.out.lt)
          replace HB := Lib.hid (HB.out.trans (hb.mono HB.out.size))
          clear hb
          obtain ⟨wz, hwz⟩ : ∃ wz, wz = ((((((w6.alloc (.cells #[.int .i64 m.which, .bool m.back, .int .i64 m.at_] 43)).setCell ⟨w.heap.size, 0, none⟩ (.int .i64 0)).setCell ⟨w.heap.size, 1, none⟩ (.int .i64 m.which)).setCell ⟨w.heap.size, 2, none⟩ (.bool m.back)).setCell ⟨w.heap.size, 3, none⟩ (.int .i64 m.at_)).setCell ⟨w.heap.size, 4, none⟩ (.int .i64 0)) := ⟨_, rfl⟩
          have KZ := K.out.set5 (.int .i64 0) (.int .i64 m.which) (.bool m.back) (.int .i64 m.at_) (.int .i64 0)
          have HZ := Lib.hid (Below.set5 HB.out (Nat.le_refl _) (.int .i64 0) (.int .i64 m.which) (.bool m.back) (.int .i64 m.at_) (.int .i64 0))
          rw [← hwz] at KZ HZ
          have q0 := KZ.cell 0
          have q1 := KZ.cell 1
          have q2 := KZ.cell 2
          have q3 := KZ.cell 3
          have q4 := KZ.cell 4
          clear KZ
          have c0 := K.out.cell 0
          have f0 := K.out.free 0
          have c1 := K.out.cell 1
          have f1 := K.out.free 1
          have c2 := K.out.cell 2
          have f2 := K.out.free 2
          have c3 := K.out.cell 3
          have f3 := K.out.free 3
          have c4 := K.out.cell 4
          have f4 := K.out.free 4
          go_wp2
          simp only [← hwz]
          clear hwz
          rw [HR.out, HQ2.out]
          refine bodyPost_ret (v := .tuple #[.agg #[.int .i64 0, .int .i64 m.which, .bool m.back, .int .i64 m.at_, .int .i64 0], .bool ok]) (by simp [results, Tryz.results38, go_sem, q0, q1, q2, q3, q4]) rfl ⟨rfl, HZ.out⟩
    · have HR := Lib.hid (ra_rest HSM.out (db_other (l := l) (by
        rcases Nat.lt_or_ge 4 l.length with h | h
        · right; intro h'; exact hgood ⟨h, h'⟩
        · left; exact h)))
      by_cases h4 : 4 < l.length
      · obtain ⟨c, r, rfl⟩ : ∃ c r, l = c :: r := by
          cases l with
          | nil => simp at h4
          | cons c r => exact ⟨c, r, rfl⟩
        have hc : (c == 98) = false := by
          cases hc : c == 98
          · rfl
          · exact absurd ⟨h4, by have : c = 98 := by simpa using hc
                                 rw [this]; rfl⟩ hgood
        have h0 : 0 < (ByteArray.mk (c :: r).toArray).size := by show 0 < (c :: r).toArray.size; simp
        have hc' : ((((ByteArray.mk (c :: r).toArray)[0]'h0).toNat : Int) == 98) = false := by rw [idx0, eq98, hc]
        have hr4 : 4 ≤ r.length := by simp at h4; omega
        clear hgood h4 hc
        go_enter Tryz.func38, Tryz.ntmps38
        go_wp2_with fail
        simp only [← hw0]
        clear hw0
        go_loopw [4] (fun i wr => i = .int .i64 0 ∧ Hid (Blk w.heap.size (.cells #[.int .i64 0, .int .i64 0, .bool false, .int .i64 0, .int .i64 0] 51) wr) ∧ Hid (Below w.heap.size w wr)) (fun i _ => 100 - (intOf i).toNat)
        case atStart => exact ⟨rfl, K, HB⟩
        case round =>
          clear HB K
          obtain ⟨rfl, K, HB⟩ := hrel
          go_wp2_with fail
          obtain ⟨m, ok, hm, hok, hq1, hq2⟩ := rdAc_map (readMv (c :: r))
          have HQ1 := Lib.hid hq1
          have HQ2 := Lib.hid hq2
          clear hm hok hq1 hq2
          refine (spec_ReadMove (c :: r) _ rfl _ hl).mono ?_
          rintro e w6 ⟨rfl, hb⟩
          rw [HQ1.out]
          replace K := Lib.hid (K.out.below hb K.out.lt)
          replace HB := Lib.hid (HB.out.trans (hb.mono HB.out.size))
          clear hb
          have hb : Below w6.heap.size w6 (w6.alloc (.cells #[.int .i64 m.which, .bool m.back, .int .i64 m.at_] 43)) := (Below.refl _ _).alloc (Nat.le_refl _) _
          replace K := Lib.hid (K.out.below hb K.out.lt)
          replace HB := Lib.hid (HB.out.trans (hb.mono HB.out.size))
          clear hb
          obtain ⟨wz, hwz⟩ : ∃ wz, wz = ((((((w6.alloc (.cells #[.int .i64 m.which, .bool m.back, .int .i64 m.at_] 43)).setCell ⟨w.heap.size, 0, none⟩ (.int .i64 0)).setCell ⟨w.heap.size, 1, none⟩ (.int .i64 m.which)).setCell ⟨w.heap.size, 2, none⟩ (.bool m.back)).setCell ⟨w.heap.size, 3, none⟩ (.int .i64 m.at_)).setCell ⟨w.heap.size, 4, none⟩ (.int .i64 0)) := ⟨_, rfl⟩
          have KZ := K.out.set5 (.int .i64 0) (.int .i64 m.which) (.bool m.back) (.int .i64 m.at_) (.int .i64 0)
          have HZ := Lib.hid (Below.set5 HB.out (Nat.le_refl _) (.int .i64 0) (.int .i64 m.which) (.bool m.back) (.int .i64 m.at_) (.int .i64 0))
          rw [← hwz] at KZ HZ
          have q0 := KZ.cell 0
          have q1 := KZ.cell 1
          have q2 := KZ.cell 2
          have q3 := KZ.cell 3
          have q4 := KZ.cell 4
          clear KZ
          have c0 := K.out.cell 0
          have f0 := K.out.free 0
          have c1 := K.out.cell 1
          have f1 := K.out.free 1
          have c2 := K.out.cell 2
          have f2 := K.out.free 2
          have c3 := K.out.cell 3
          have f3 := K.out.free 3
          have c4 := K.out.cell 4
          have f4 := K.out.free 4
          go_wp2
          simp only [← hwz]
          clear hwz
          rw [HR.out, HQ2.out]
          refine bodyPost_ret (v := .tuple #[.agg #[.int .i64 0, .int .i64 m.which, .bool m.back, .int .i64 m.at_, .int .i64 0], .bool ok]) (by simp [results, Tryz.results38, go_sem, q0, q1, q2, q3, q4]) rfl ⟨rfl, HZ.out⟩
      · have h4' : l.length ≤ 4 := by omega
        clear hgood h4
        go_enter Tryz.func38, Tryz.ntmps38
        go_wp2_with fail
        simp only [← hw0]
        clear hw0
        go_loopw [4] (fun i wr => i = .int .i64 0 ∧ Hid (Blk w.heap.size (.cells #[.int .i64 0, .int .i64 0, .bool false, .int .i64 0, .int .i64 0] 51) wr) ∧ Hid (Below w.heap.size w wr)) (fun i _ => 100 - (intOf i).toNat)
        case atStart => exact ⟨rfl, K, HB⟩
        case round =>
          clear HB K
          obtain ⟨rfl, K, HB⟩ := hrel
          go_wp2_with fail
          obtain ⟨m, ok, hm, hok, hq1, hq2⟩ := rdAc_map (readMv (l))
          have HQ1 := Lib.hid hq1
          have HQ2 := Lib.hid hq2
          clear hm hok hq1 hq2
          refine (spec_ReadMove (l) _ rfl _ hl).mono ?_
          rintro e w6 ⟨rfl, hb⟩
          rw [HQ1.out]
          replace K := Lib.hid (K.out.below hb K.out.lt)
          replace HB := Lib.hid (HB.out.trans (hb.mono HB.out.size))
          clear hb
          have hb : Below w6.heap.size w6 (w6.alloc (.cells #[.int .i64 m.which, .bool m.back, .int .i64 m.at_] 43)) := (Below.refl _ _).alloc (Nat.le_refl _) _
          replace K := Lib.hid (K.out.below hb K.out.lt)
          replace HB := Lib.hid (HB.out.trans (hb.mono HB.out.size))
          clear hb
          obtain ⟨wz, hwz⟩ : ∃ wz, wz = ((((((w6.alloc (.cells #[.int .i64 m.which, .bool m.back, .int .i64 m.at_] 43)).setCell ⟨w.heap.size, 0, none⟩ (.int .i64 0)).setCell ⟨w.heap.size, 1, none⟩ (.int .i64 m.which)).setCell ⟨w.heap.size, 2, none⟩ (.bool m.back)).setCell ⟨w.heap.size, 3, none⟩ (.int .i64 m.at_)).setCell ⟨w.heap.size, 4, none⟩ (.int .i64 0)) := ⟨_, rfl⟩
          have KZ := K.out.set5 (.int .i64 0) (.int .i64 m.which) (.bool m.back) (.int .i64 m.at_) (.int .i64 0)
          have HZ := Lib.hid (Below.set5 HB.out (Nat.le_refl _) (.int .i64 0) (.int .i64 m.which) (.bool m.back) (.int .i64 m.at_) (.int .i64 0))
          rw [← hwz] at KZ HZ
          have q0 := KZ.cell 0
          have q1 := KZ.cell 1
          have q2 := KZ.cell 2
          have q3 := KZ.cell 3
          have q4 := KZ.cell 4
          clear KZ
          have c0 := K.out.cell 0
          have f0 := K.out.free 0
          have c1 := K.out.cell 1
          have f1 := K.out.free 1
          have c2 := K.out.cell 2
          have f2 := K.out.free 2
          have c3 := K.out.cell 3
          have f3 := K.out.free 3
          have c4 := K.out.cell 4
          have f4 := K.out.free 4
          go_wp2
          simp only [← hwz]
          clear hwz
          rw [HR.out, HQ2.out]
          refine bodyPost_ret (v := .tuple #[.agg #[.int .i64 0, .int .i64 m.which, .bool m.back, .int .i64 m.at_, .int .i64 0], .bool ok]) (by simp [results, Tryz.results38, go_sem, q0, q1, q2, q3, q4]) rfl ⟨rfl, HZ.out⟩
end Go.Proofs.YtagjpecibpejmaaGreatDoor
