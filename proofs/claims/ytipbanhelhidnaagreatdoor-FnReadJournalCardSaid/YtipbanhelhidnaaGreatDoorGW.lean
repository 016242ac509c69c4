/-
  Texts of walks and plain lemmas for this seat; no condition.
-/
import Derived.Test.YtipbanhelhidnaaGreatDoorMvRead
import Derived.Test.YtipbanhelhidnaaGreatDoorRAct
import Derived.Test.YtipbanhelhidnaaGreatDoorRMove
import Derived.Test.YtipbanhelhidnaaGreatDoorMText2
import Derived.Test.YtipbanhelhidnaaGreatDoorAct3
import Derived.Test.YtipbanhelhidnaaGreatDoorJournal
import Derived.Test.YtipbanhelhidnaaGreatDoorAcs
import Derived.Test.YtipbanhelhidnaaGreatDoorActInfo
import Derived.Lib.IndexLaws
import Derived.Deep.RegionWith
namespace Go.Proofs.YtipbanhelhidnaaGreatDoor
open Go.RowKit
section

theorem mvText_last : ∀ p, p < 21 → ∀ q, q < 40 → ∀ b : Bool, (mvText ⟨(p : Nat), b, (q : Nat)⟩).getLast? ≠ some 32 := by decide +kernel
/-- With a space behind it no text is one of a move. -/
theorem readMv_more (l : List UInt8) : readMv (l ++ [32]) = none :=
  readMv_none fun m hm e => by
    obtain ⟨p, q, hp, hq, em⟩ := mvOk_nat hm
    have h := mvText_last p (by omega) q (by omega) m.back
    rw [← em, e] at h
    simp at h
end

section

/-- The place of the first newline. -/
def nl (l : List UInt8) : Option Nat := l.findIdx? (· == 10)
/-- The acts with which a text begins, and how many bytes their lines have. -/
def jr : Nat → List UInt8 → List Ac × Nat
  | 0, _ => ([], 0)
  | f + 1, l => match nl l with
    | none => ([], 0)
    | some i => match readAc (l.take i) with
      | none => ([], 0)
      | some a => (a :: (jr f (l.drop (i + 1))).1, i + 1 + (jr f (l.drop (i + 1))).2)
def readJr (l : List UInt8) : List Ac × Nat := jr (l.length + 1) l

theorem nl_some {l : List UInt8} {i : Nat} (h : nl l = some i) : l[i]? = some 10 ∧ i < l.length ∧ ∀ j, j < i → l[j]? ≠ some 10 := by
  unfold nl at h
  rw [List.findIdx?_eq_some_iff_getElem] at h
  obtain ⟨hi, h1, h2⟩ := h
  have e : l[i] = 10 := by simpa using h1
  refine ⟨by rw [List.getElem?_eq_getElem hi, e], hi, fun j hj he => ?_⟩
  have hjl : j < l.length := by omega
  rw [List.getElem?_eq_getElem hjl] at he
  have := h2 j hj
  injection he with he
  simp [he] at this
theorem nl_none {l : List UInt8} (h : nl l = none) (j : Nat) : l[j]? ≠ some 10 := by
  intro he
  unfold nl at h
  rw [List.findIdx?_eq_none_iff] at h
  have := h 10 (List.mem_of_getElem? he)
  simp at this
theorem nl_of {l : List UInt8} {i : Nat} (h1 : l[i]? = some 10) (h2 : ∀ j, j < i → l[j]? ≠ some 10) : nl l = some i := by
  cases h : nl l with
  | none => exact absurd h1 (nl_none h i)
  | some k =>
    obtain ⟨g1, g2, g3⟩ := nl_some h
    rcases Nat.lt_trichotomy k i with hk | rfl | hk
    · exact absurd g1 (h2 k hk)
    · rfl
    · exact absurd h1 (g3 i hk)
theorem nl_not {l : List UInt8} (h : ∀ j, j < l.length → l[j]? ≠ some 10) : nl l = none := by
  cases hn : nl l with
  | none => rfl
  | some k =>
    obtain ⟨g1, g2, _⟩ := nl_some hn
    exact absurd g1 (h k g2)

theorem jr_eq : ∀ (n : Nat) (l : List UInt8) (f f' : Nat), l.length ≤ n → l.length < f → l.length < f' → jr f l = jr f' l := by
  intro n
  induction n with
  | zero =>
    intro l f f' h1 h2 h3
    obtain rfl : l = [] := List.eq_nil_of_length_eq_zero (by omega)
    obtain ⟨f, rfl⟩ : ∃ g, f = g + 1 := ⟨f - 1, by omega⟩
    obtain ⟨f', rfl⟩ : ∃ g, f' = g + 1 := ⟨f' - 1, by omega⟩
    rfl
  | succ n ih =>
    intro l f f' h1 h2 h3
    obtain ⟨f, rfl⟩ : ∃ g, f = g + 1 := ⟨f - 1, by omega⟩
    obtain ⟨f', rfl⟩ : ∃ g, f' = g + 1 := ⟨f' - 1, by omega⟩
    unfold jr
    cases hn : nl l with
    | none => rfl
    | some i =>
      have hi := (nl_some hn).2.1
      simp only
      cases readAc (l.take i) with
      | none => rfl
      | some a =>
        simp only
        have hd : (l.drop (i + 1)).length < l.length := by rw [List.length_drop]; omega
        rw [ih (l.drop (i + 1)) f f' (by omega) (by omega) (by omega)]
theorem readJr_no {l : List UInt8} (h : nl l = none) : readJr l = ([], 0) := by
  unfold readJr jr; rw [h]
theorem readJr_bad {l : List UInt8} {i : Nat} (h : nl l = some i) (h2 : readAc (l.take i) = none) : readJr l = ([], 0) := by
  unfold readJr jr; rw [h]; simp only; rw [h2]
theorem readJr_more {l : List UInt8} {i : Nat} {a : Ac} (h : nl l = some i) (h2 : readAc (l.take i) = some a) : readJr l = (a :: (readJr (l.drop (i + 1))).1, i + 1 + (readJr (l.drop (i + 1))).2) := by
  have hi := (nl_some h).2.1
  have e : jr l.length (l.drop (i + 1)) = readJr (l.drop (i + 1)) := jr_eq l.length _ _ _ (by rw [List.length_drop]; omega) (by rw [List.length_drop]; omega) (by omega)
  conv => lhs; unfold readJr jr
  rw [h]; simp only; rw [h2]; simp only; rw [e]

theorem occ10 (l : List UInt8) (i : Nat) : Lib.occAt l [10] i = true ↔ l[i]? = some 10 := by
  unfold Lib.occAt
  rw [show l[i]? = (l.drop i)[0]? by rw [List.getElem?_drop]; simp]
  cases l.drop i with
  | nil => simp
  | cons c r =>
    show (([10] : List UInt8).isPrefixOf (c :: r)) = true ↔ some c = some 10
    rw [List.isPrefixOf, List.isPrefixOf, Bool.and_true, beq_iff_eq, Option.some.injEq]
    exact ⟨fun h => h.symm, fun h => h.symm⟩
theorem occ10f (l : List UInt8) (i : Nat) (h : l[i]? ≠ some 10) : Lib.occAt l [10] i = false := by
  cases ho : Lib.occAt l [10] i with
  | false => rfl
  | true => exact absurd ((occ10 l i).1 ho) h
theorem cut_nl {l : List UInt8} {i : Nat} (h : nl l = some i) : Lib.cut l [10] = (l.take i, l.drop (i + 1), true) := by
  obtain ⟨h1, h2, h3⟩ := nl_some h
  have hi : Lib.index l [10] = i := Lib.index_hit (fun j hj => occ10f l j (h3 j hj)) (by omega) ((occ10 l i).2 h1)
  unfold Lib.cut
  rw [hi, if_pos (by omega)]
  simp
theorem cut_no {l : List UInt8} (h : nl l = none) : Lib.cut l [10] = (l, [], false) := by
  have hi : Lib.index l [10] = -1 := Lib.index_past (i := l.length) (by simp) (fun j _ => occ10f l j (nl_none h j)) (by simp)
  unfold Lib.cut
  rw [hi, if_neg (by omega)]
end

section

/-- No move before (R, A, B) has this text. -/
def Nope (l : List UInt8) (R A B : Nat) : Prop := ∀ m : Mv, mvOk m = true → (m.which < R ∨ (m.which = R ∧ (m.at_ < A ∨ (m.at_ = A ∧ (if m.back then 1 else 0) < B)))) → mvText m ≠ l
theorem Nope.zero (l : List UInt8) : Nope l 0 0 0 := by
  intro m h hlt
  simp [mvOk] at h
  omega
theorem Nope.step {l : List UInt8} {R A B : Nat} (h : Nope l R A B) (hne : mvText ⟨R, (B : Int) == 1, A⟩ ≠ l) (hB : B < 2) : Nope l R A (B + 1) := by
  intro m hm hlt
  by_cases h1 : m.which < R ∨ (m.which = R ∧ (m.at_ < A ∨ (m.at_ = A ∧ (if m.back then 1 else 0) < B)))
  · exact h m hm h1
  · have e : m = ⟨R, (B : Int) == 1, A⟩ := by
      obtain ⟨p, b, q⟩ := m
      simp only at h1 hlt
      have e1 : p = R := by omega
      have e2 : q = A := by omega
      have e3 : (if b = true then 1 else 0) = B := by omega
      subst e1 e2
      congr 1
      subst e3
      cases b <;> rfl
    rw [e]; exact hne
theorem Nope.next {l : List UInt8} {R A : Nat} (h : Nope l R A 2) : Nope l R (A + 1) 0 := by
  intro m hm hlt
  refine h m hm ?_
  have : (if m.back = true then 1 else 0) < 2 := by split <;> omega
  omega
theorem Nope.next2 {l : List UInt8} {R : Nat} (h : Nope l R 40 0) : Nope l (R + 1) 0 0 := by
  intro m hm hlt
  refine h m hm ?_
  simp [mvOk] at hm
  omega
theorem Nope.all {l : List UInt8} (h : Nope l 21 0 0) : readMv l = none :=
  readMv_none fun m hm => h m hm (by simp [mvOk] at hm; omega)
theorem rd_long {l : List UInt8} (h : 6 < l.length) : readMv l = none :=
  readMv_none fun m hm e => by have := mvText_len m; rw [e] at this; omega

set_option maxRecDepth 100000 in
set_option maxHeartbeats 3200000 in
theorem spec_ReadMove (l : List UInt8) (s : ByteArray) (hs : s = ⟨l.toArray⟩) (w : World) (hl : l.length ≤ 2097152) :
    Calls Tryz.prog 47 #[.string s] w fun e w' => e = .returned (rdMv (readMv l)) ∧ Below w.heap.size w w' := by
  subst hs
  have hb0 : Hid (∀ o, Below w.heap.size w (w.alloc o)) := Lib.hid fun o => (Below.refl _ _).alloc (Nat.le_refl _) _
  by_cases h6 : 6 < l.length
  · go_enter Tryz.func47, Tryz.ntmps47
    go_wp2
    rw [rd_long h6]
    refine bodyPost_ret (v := rdMv none) (by simp [results, Tryz.results47, go_sem, rdMv, zeroMv]) rfl ⟨rfl, hb0.out _⟩
  · have K0 : Hid (∀ o, Blk w.heap.size o (w.alloc o)) := Lib.hid fun o => Blk.new w o
    have h6' : l.length ≤ 6 := by omega
    clear h6
    go_enter Tryz.func47, Tryz.ntmps47
    go_wp2
    go_loopw [4] (fun i wr => ∃ R : Nat, R ≤ 21 ∧ i = .int .i64 R ∧ Hid (Nope l R 0 0) ∧ Hid (Blk w.heap.size (.cells #[.int .i64 0, .bool false, .int .i64 0] 39) wr) ∧ Hid (Below w.heap.size w wr)) (fun i _ => 21 - (intOf i).toNat)
    case atStart => exact ⟨0, by omega, rfl, Lib.hid (Nope.zero l), Lib.hid (K0.out _), Lib.hid (hb0.out _)⟩
    case round =>
      obtain ⟨R, hR, rfl, HN, K, HB⟩ := hrel
      by_cases hltR : R < 21
      · go_wp2
        simp only [show decide ((R : Int) < 21) = true from decide_eq_true (by omega)]
        go_loopw [5] (fun i wr => ∃ A : Nat, A ≤ 40 ∧ i = .int .i64 A ∧ Hid (Nope l R A 0) ∧ Hid (Blk w.heap.size (.cells #[.int .i64 0, .bool false, .int .i64 0] 39) wr) ∧ Hid (Below w.heap.size w wr)) (fun i _ => 40 - (intOf i).toNat)
        case atStart => exact ⟨0, by omega, rfl, HN, K, HB⟩
        case round =>
          clear HN K HB
          obtain ⟨A, hA, rfl, HN, K, HB⟩ := hrel
          by_cases hltA : A < 40
          · go_wp2
            simp only [show decide ((A : Int) < 40) = true from decide_eq_true (by omega)]
            go_loopw [6] (fun i wr => ∃ B : Nat, B ≤ 2 ∧ i = .int .i64 B ∧ Hid (Nope l R A B) ∧ Hid (Blk w.heap.size (.cells #[.int .i64 0, .bool false, .int .i64 0] 39) wr) ∧ Hid (Below w.heap.size w wr)) (fun i _ => 2 - (intOf i).toNat)
            case atStart => exact ⟨0, by omega, rfl, HN, K, HB⟩
            case round =>
              clear HN K HB
              obtain ⟨B, hB, rfl, HN, K, HB⟩ := hrel
              by_cases hltB : B < 2
              · go_wp2_with fail
                obtain ⟨bk, hbk⟩ : ∃ bk, bk = ((B : Int) == 1) := ⟨_, rfl⟩
                rw [← hbk]
                obtain ⟨w4, hw4⟩ : ∃ w4, w4 = wr.alloc (.cells #[.int .i64 R, .bool bk, .int .i64 A] 39) := ⟨_, rfl⟩
                rw [← hw4]
                have hb : Below wr.heap.size wr w4 := by rw [hw4]; exact (Below.refl _ _).alloc (Nat.le_refl _) _
                have K4 : Hid (Blk wr.heap.size (.cells #[.int .i64 R, .bool bk, .int .i64 A] 39) w4) := by rw [hw4]; exact Lib.hid (Blk.new _ _)
                replace K := Lib.hid (K.out.below hb K.out.lt)
                have hsz3 := HB.out.size
                replace HB := Lib.hid (HB.out.trans (hb.mono HB.out.size))
                have HBK := Lib.hid hbk
                clear hb hw4 hbk
                refine (spec_MoveText ⟨R, bk, A⟩ _).mono ?_
                rintro e w5 ⟨rfl, hb⟩
                replace K := Lib.hid (K.out.below hb K.out.lt)
                replace K4 := Lib.hid (K4.out.below hb K4.out.lt)
                replace HB := Lib.hid (HB.out.trans (hb.mono HB.out.size))
                clear hb
                have d0 := K4.out.cell 0
                have d1 := K4.out.cell 1
                have d2 := K4.out.cell 2
                cases hq : (mvText ⟨R, bk, A⟩ == l)
                · go_wp2
                  go_roundw
                  case rel => exact ⟨B + 1, by omega, by go_num, Lib.hid (HN.out.step (by rw [← HBK.out]; simpa using hq) hltB), K, HB⟩
                  case measure => simp [intOf]; omega
                · have HR := Lib.hid ((readMv_iff l ⟨R, bk, A⟩).2 ⟨by simp [mvOk]; omega, by simpa using hq⟩)
                  obtain ⟨wz, hwz⟩ : ∃ wz, wz = (((w5.setCell ⟨w.heap.size, 0, none⟩ (.int .i64 R)).setCell ⟨w.heap.size, 1, none⟩ (.bool bk)).setCell ⟨w.heap.size, 2, none⟩ (.int .i64 A)) := ⟨_, rfl⟩
                  have KZ := K.out.set3 (.int .i64 R) (.bool bk) (.int .i64 A)
                  have HZ := Lib.hid (Below.set3 HB.out (Nat.le_refl _) (.int .i64 R) (.bool bk) (.int .i64 A))
                  rw [← hwz] at KZ HZ
                  have q0 := KZ.cell 0
                  have q1 := KZ.cell 1
                  have q2 := KZ.cell 2
                  clear KZ
                  have c0 := K.out.cell 0
                  have c1 := K.out.cell 1
                  have c2 := K.out.cell 2
                  have f0 := K.out.free 0
                  have f1 := K.out.free 1
                  have f2 := K.out.free 2
                  go_wp2
                  simp only [← hwz]
                  clear hwz
                  rw [HR.out]
                  refine bodyPost_ret (v := rdMv (some ⟨R, bk, A⟩)) (by simp [results, Tryz.results47, go_sem, q0, q1, q2, rdMv, zeroMv]) rfl ⟨rfl, HZ.out⟩
              · obtain rfl : B = 2 := by omega
                go_wp2
                go_roundw
                case rel => exact ⟨A + 1, by omega, by go_num, Lib.hid HN.out.next, K, HB⟩
                case measure => simp [intOf]; omega
          · obtain rfl : A = 40 := by omega
            go_wp2
            go_roundw
            case rel => exact ⟨R + 1, by omega, by go_num, Lib.hid HN.out.next2, K, HB⟩
            case measure => simp [intOf]; omega
      · obtain rfl : R = 21 := by omega
        obtain ⟨wz, hwz⟩ : ∃ wz, wz = (((wr.setCell ⟨w.heap.size, 0, none⟩ (.int .i64 0)).setCell ⟨w.heap.size, 1, none⟩ (.bool false)).setCell ⟨w.heap.size, 2, none⟩ (.int .i64 0)) := ⟨_, rfl⟩
        have KZ := K.out.set3 (.int .i64 0) (.bool false) (.int .i64 0)
        have HZ := Lib.hid (Below.set3 HB.out (Nat.le_refl _) (.int .i64 0) (.bool false) (.int .i64 0))
        rw [← hwz] at KZ HZ
        have q0 := KZ.cell 0
        have q1 := KZ.cell 1
        have q2 := KZ.cell 2
        clear KZ
        have c0 := K.out.cell 0
        have c1 := K.out.cell 1
        have c2 := K.out.cell 2
        have f0 := K.out.free 0
        have f1 := K.out.free 1
        have f2 := K.out.free 2
        go_wp2
        simp only [← hwz]
        clear hwz
        rw [Nope.all HN.out]
        refine bodyPost_ret (v := rdMv none) (by simp [results, Tryz.results47, go_sem, q0, q1, q2, rdMv, zeroMv]) rfl ⟨rfl, HZ.out⟩
end

section

theorem CutPrefix_any (l p : List UInt8) (s sep : ByteArray) (hs : s = ⟨l.toArray⟩) (hp : sep = ⟨p.toArray⟩) (w : World) :
    Calls Tryz.prog 45 #[.string s, .string sep] w fun e w' => e = .returned (.tuple #[.string ⟨(Lib.trimPrefix l p).toArray⟩, .bool (Lib.hasPrefix l p)]) ∧ w = w' := by
  subst hs hp
  exact (Tryz.strings_CutPrefix ⟨l.toArray⟩ ⟨p.toArray⟩ w).mono fun e w' h => ⟨h.1, h.2.symm⟩

set_option maxRecDepth 100000 in
set_option maxHeartbeats 3200000 in
theorem impl_ReadAct (l : List UInt8) (s : ByteArray) (hs : s = ⟨l.toArray⟩) (w : World) (hE : Env w) (hl : l.length ≤ 2097152) :
    Calls Tryz.prog 22 #[.string s] w fun e w' => e = .returned (rdAc (readAc l)) ∧ Below w.heap.size w w' := by
  subst hs
  obtain ⟨w0, hw0⟩ : ∃ w0, w0 = w.alloc (.cells #[.int .i64 0, .int .i64 0, .bool false, .int .i64 0, .int .i64 0] 41) := ⟨_, rfl⟩
  have HB : Hid (Below w.heap.size w w0) := by rw [hw0]; exact Lib.hid ((Below.refl _ _).alloc (Nat.le_refl _) _)
  have K : Hid (Blk w.heap.size (.cells #[.int .i64 0, .int .i64 0, .bool false, .int .i64 0, .int .i64 0] 41) w0) := by rw [hw0]; exact Lib.hid (Blk.new w _)
  have HE := Lib.hid (hE.below HB.out)
  clear hE
  go_enter Tryz.func22, Tryz.ntmps22
  go_wp2_with fail
  simp only [← hw0]
  clear hw0
  refine (impl_ReadMove l _ rfl _ HE.out hl).mono ?_
  rintro e w1 ⟨rfl, hb⟩
  replace HE := Lib.hid (HE.out.below hb)
  replace K := Lib.hid (K.out.below hb K.out.lt)
  replace HB := Lib.hid (HB.out.trans (hb.mono HB.out.size))
  clear hb
  cases hr : readMv l with
  | some m =>
    rw [rdMv_some]
    have HR := Lib.hid (ra_move hr)
    clear hr HE
    obtain ⟨w2, hw2⟩ : ∃ w2, w2 = w1.alloc (.cells #[.int .i64 m.which, .bool m.back, .int .i64 m.at_] 39) := ⟨_, rfl⟩
    have hb : Below w1.heap.size w1 w2 := by rw [hw2]; exact (Below.refl _ _).alloc (Nat.le_refl _) _
    replace K : Hid (Blk w.heap.size (.cells #[.int .i64 0, .int .i64 0, .bool false, .int .i64 0, .int .i64 0] 41) (w1.alloc (.cells #[.int .i64 m.which, .bool m.back, .int .i64 m.at_] 39))) := by rw [← hw2]; exact Lib.hid (K.out.below hb K.out.lt)
    replace HB : Hid (Below w.heap.size w (w1.alloc (.cells #[.int .i64 m.which, .bool m.back, .int .i64 m.at_] 39))) := by rw [← hw2]; exact Lib.hid (HB.out.trans (hb.mono HB.out.size))
    clear hb hw2
    obtain ⟨wz, hwz⟩ : ∃ wz, wz = ((((((w1.alloc (.cells #[.int .i64 m.which, .bool m.back, .int .i64 m.at_] 39)).setCell ⟨w.heap.size, 0, none⟩ (.int .i64 0)).setCell ⟨w.heap.size, 1, none⟩ (.int .i64 m.which)).setCell ⟨w.heap.size, 2, none⟩ (.bool m.back)).setCell ⟨w.heap.size, 3, none⟩ (.int .i64 m.at_)).setCell ⟨w.heap.size, 4, none⟩ (.int .i64 0)) := ⟨_, rfl⟩
    have KZ := K.out.set5 (.int .i64 0) (.int .i64 m.which) (.bool m.back) (.int .i64 m.at_) (.int .i64 0)
    have HZ := Lib.hid (Below.set5 HB.out (Nat.le_refl _) (.int .i64 0) (.int .i64 m.which) (.bool m.back) (.int .i64 m.at_) (.int .i64 0))
    rw [← hwz] at KZ HZ
    have q0 := KZ.cell 0
    have q1 := KZ.cell 1
    have q2 := KZ.cell 2
    have q3 := KZ.cell 3
    have q4 := KZ.cell 4
    clear KZ
    have c0 := K.out.cell 0
    have f0 := K.out.free 0
    have c1 := K.out.cell 1
    have f1 := K.out.free 1
    have c2 := K.out.cell 2
    have f2 := K.out.free 2
    have c3 := K.out.cell 3
    have f3 := K.out.free 3
    have c4 := K.out.cell 4
    have f4 := K.out.free 4
    go_wp2
    simp only [← hwz]
    clear hwz
    rw [HR.out]
    refine bodyPost_ret (v := rdAc (some ⟨0, m, 0⟩)) (by simp [results, Tryz.results22, go_sem, q0, q1, q2, q3, q4, rdAc]) rfl ⟨rfl, HZ.out⟩
  | none =>
    rw [rdMv_none]
    have HR1 := Lib.hid hr
    clear hr
    cases hsm : l == simpleT with
    | true =>
      have HR := Lib.hid (ra_simple (l := l) (by simpa using hsm))
      have hsm' : (l == [115, 105, 109, 112, 108, 101]) = true := hsm
      clear hsm HE
      have hb : Below w1.heap.size w1 (w1.alloc (.cells #[.int .i64 0, .bool false, .int .i64 0] 39)) := (Below.refl _ _).alloc (Nat.le_refl _) _
      replace K := Lib.hid (K.out.below hb K.out.lt)
      replace HB := Lib.hid (HB.out.trans (hb.mono HB.out.size))
      clear hb
      obtain ⟨wz, hwz⟩ : ∃ wz, wz = ((((((w1.alloc (.cells #[.int .i64 0, .bool false, .int .i64 0] 39)).setCell ⟨w.heap.size, 0, none⟩ (.int .i64 2)).setCell ⟨w.heap.size, 1, none⟩ (.int .i64 0)).setCell ⟨w.heap.size, 2, none⟩ (.bool false)).setCell ⟨w.heap.size, 3, none⟩ (.int .i64 0)).setCell ⟨w.heap.size, 4, none⟩ (.int .i64 0)) := ⟨_, rfl⟩
      have KZ := K.out.set5 (.int .i64 2) (.int .i64 0) (.bool false) (.int .i64 0) (.int .i64 0)
      have HZ := Lib.hid (Below.set5 HB.out (Nat.le_refl _) (.int .i64 2) (.int .i64 0) (.bool false) (.int .i64 0) (.int .i64 0))
      rw [← hwz] at KZ HZ
      have q0 := KZ.cell 0
      have q1 := KZ.cell 1
      have q2 := KZ.cell 2
      have q3 := KZ.cell 3
      have q4 := KZ.cell 4
      clear KZ
      have c0 := K.out.cell 0
      have f0 := K.out.free 0
      have c1 := K.out.cell 1
      have f1 := K.out.free 1
      have c2 := K.out.cell 2
      have f2 := K.out.free 2
      have c3 := K.out.cell 3
      have f3 := K.out.free 3
      have c4 := K.out.cell 4
      have f4 := K.out.free 4
      go_wp2
      simp only [← hwz]
      clear hwz
      rw [HR.out]
      refine bodyPost_ret (v := rdAc (some ⟨2, zeroMv, 0⟩)) (by simp [results, Tryz.results22, go_sem, q0, q1, q2, q3, q4, rdAc, zeroMv]) rfl ⟨rfl, HZ.out⟩
    | false =>
      have HSM := Lib.hid hsm
      have hsm' : (l == [115, 105, 109, 112, 108, 101]) = false := hsm
      clear hsm
      go_wp2_with fail
      obtain ⟨w2, hw2⟩ : ∃ w2, w2 = w1.alloc (.cells #[.int .i64 0, .bool false, .int .i64 0] 39) := ⟨_, rfl⟩
      rw [← hw2]
      have hb : Below w1.heap.size w1 w2 := by rw [hw2]; exact (Below.refl _ _).alloc (Nat.le_refl _) _
      replace HE := Lib.hid (HE.out.below hb)
      replace K := Lib.hid (K.out.below hb K.out.lt)
      replace HB := Lib.hid (HB.out.trans (hb.mono HB.out.size))
      clear hb hw2
      refine (CutPrefix_any l backT _ _ rfl rfl _).mono ?_
      rintro e w' ⟨rfl, rfl⟩
      cases hp : Lib.hasPrefix l backT with
      | false =>
        have HR := Lib.hid (ra_none HR1.out HSM.out (db_no1 hp))
        clear hp
        obtain ⟨wz, hwz⟩ : ∃ wz, wz = (((((w2.setCell ⟨w.heap.size, 0, none⟩ (.int .i64 0)).setCell ⟨w.heap.size, 1, none⟩ (.int .i64 0)).setCell ⟨w.heap.size, 2, none⟩ (.bool false)).setCell ⟨w.heap.size, 3, none⟩ (.int .i64 0)).setCell ⟨w.heap.size, 4, none⟩ (.int .i64 0)) := ⟨_, rfl⟩
        have KZ := K.out.set5 (.int .i64 0) (.int .i64 0) (.bool false) (.int .i64 0) (.int .i64 0)
        have HZ := Lib.hid (Below.set5 HB.out (Nat.le_refl _) (.int .i64 0) (.int .i64 0) (.bool false) (.int .i64 0) (.int .i64 0))
        rw [← hwz] at KZ HZ
        have q0 := KZ.cell 0
        have q1 := KZ.cell 1
        have q2 := KZ.cell 2
        have q3 := KZ.cell 3
        have q4 := KZ.cell 4
        clear KZ
        have c0 := K.out.cell 0
        have f0 := K.out.free 0
        have c1 := K.out.cell 1
        have f1 := K.out.free 1
        have c2 := K.out.cell 2
        have f2 := K.out.free 2
        have c3 := K.out.cell 3
        have f3 := K.out.free 3
        have c4 := K.out.cell 4
        have f4 := K.out.free 4
        go_wp2
        simp only [← hwz]
        clear hwz
        rw [HR.out]
        refine bodyPost_ret (v := rdAc none) (by simp [results, Tryz.results22, go_sem, q0, q1, q2, q3, q4, rdAc_none]) rfl ⟨rfl, HZ.out⟩
      | true =>
        have HNE : Hid (l ≠ []) := Lib.hid (by intro h; rw [h] at hp; cases hp)
        have hpl : (Lib.trimPrefix l backT).length ≤ l.length := by unfold Lib.trimPrefix; rw [if_pos hp]; simp
        obtain ⟨p, hp1⟩ : ∃ p, p = Lib.trimPrefix l backT := ⟨_, rfl⟩
        rw [← hp1] at hpl ⊢
        have HP := Lib.hid hp1
        clear hp1 hp
        cases ha : atoiV p with
        | none =>
          have HR := Lib.hid (ra_none HR1.out HSM.out (db_no2 (by rw [← HP.out]; exact ha)))
          go_wp2_with fail
          refine (Atoi_bad p _ rfl _ HE.out (by omega) ha).mono ?_
          rintro e w3 ⟨n, t, q, rfl, hb⟩
          replace K := Lib.hid (K.out.below hb K.out.lt)
          replace HB := Lib.hid (HB.out.trans (hb.mono HB.out.size))
          clear hb ha HE
          have hb : Below w3.heap.size w3 (w3.alloc (.cells #[.int .i64 1, .int .i64 0, .bool false, .int .i64 0, .int .i64 n] 41)) := (Below.refl _ _).alloc (Nat.le_refl _) _
          replace K := Lib.hid (K.out.below hb K.out.lt)
          replace HB := Lib.hid (HB.out.trans (hb.mono HB.out.size))
          clear hb
          obtain ⟨wz, hwz⟩ : ∃ wz, wz = ((((((w3.alloc (.cells #[.int .i64 1, .int .i64 0, .bool false, .int .i64 0, .int .i64 n] 41)).setCell ⟨w.heap.size, 0, none⟩ (.int .i64 0)).setCell ⟨w.heap.size, 1, none⟩ (.int .i64 0)).setCell ⟨w.heap.size, 2, none⟩ (.bool false)).setCell ⟨w.heap.size, 3, none⟩ (.int .i64 0)).setCell ⟨w.heap.size, 4, none⟩ (.int .i64 0)) := ⟨_, rfl⟩
          have KZ := K.out.set5 (.int .i64 0) (.int .i64 0) (.bool false) (.int .i64 0) (.int .i64 0)
          have HZ := Lib.hid (Below.set5 HB.out (Nat.le_refl _) (.int .i64 0) (.int .i64 0) (.bool false) (.int .i64 0) (.int .i64 0))
          rw [← hwz] at KZ HZ
          have q0 := KZ.cell 0
          have q1 := KZ.cell 1
          have q2 := KZ.cell 2
          have q3 := KZ.cell 3
          have q4 := KZ.cell 4
          clear KZ
          have c0 := K.out.cell 0
          have f0 := K.out.free 0
          have c1 := K.out.cell 1
          have f1 := K.out.free 1
          have c2 := K.out.cell 2
          have f2 := K.out.free 2
          have c3 := K.out.cell 3
          have f3 := K.out.free 3
          have c4 := K.out.cell 4
          have f4 := K.out.free 4
          go_wp2
          simp only [← hwz]
          clear hwz
          rw [HR.out]
          refine bodyPost_ret (v := rdAc none) (by simp [results, Tryz.results22, go_sem, q0, q1, q2, q3, q4, rdAc_none]) rfl ⟨rfl, HZ.out⟩
        | some n =>
          go_wp2_with fail
          refine (Atoi_ok p _ rfl n _ (by omega) ha).mono ?_
          rintro e w3 ⟨rfl, hb⟩
          have HA := Lib.hid ha
          replace K := Lib.hid (K.out.below hb K.out.lt)
          replace HB := Lib.hid (HB.out.trans (hb.mono HB.out.size))
          clear hb ha HE
          go_wp2_with fail
          obtain ⟨w4, hw4⟩ : ∃ w4, w4 = w3.alloc (.cells #[.int .i64 1, .int .i64 0, .bool false, .int .i64 0, .int .i64 n] 41) := ⟨_, rfl⟩
          rw [← hw4]
          have hb : Below w3.heap.size w3 w4 := by rw [hw4]; exact (Below.refl _ _).alloc (Nat.le_refl _) _
          have K4 : Hid (Blk w3.heap.size (.cells #[.int .i64 1, .int .i64 0, .bool false, .int .i64 0, .int .i64 n] 41) w4) := by rw [hw4]; exact Lib.hid (Blk.new _ _)
          replace K := Lib.hid (K.out.below hb K.out.lt)
          replace HB := Lib.hid (HB.out.trans (hb.mono HB.out.size))
          clear hb hw4
          refine (impl_ActText ⟨1, zeroMv, n⟩ _).mono ?_
          rintro e w5 ⟨rfl, hb⟩
          replace K4 := Lib.hid (K4.out.below hb K4.out.lt)
          replace K := Lib.hid (K.out.below hb K.out.lt)
          replace HB := Lib.hid (HB.out.trans (hb.mono HB.out.size))
          clear hb
          have d0 := K4.out.cell 0
          have d1 := K4.out.cell 1
          have d2 := K4.out.cell 2
          have d3 := K4.out.cell 3
          have d4 := K4.out.cell 4
          cases hq : (actText ⟨1, zeroMv, n⟩ == l)
          · have HR := Lib.hid (ra_none HR1.out HSM.out (db_no3 (n := n) (by rw [← HP.out]; exact HA.out) (by simpa using hq)))
            obtain ⟨wz, hwz⟩ : ∃ wz, wz = (((((w5.setCell ⟨w.heap.size, 0, none⟩ (.int .i64 0)).setCell ⟨w.heap.size, 1, none⟩ (.int .i64 0)).setCell ⟨w.heap.size, 2, none⟩ (.bool false)).setCell ⟨w.heap.size, 3, none⟩ (.int .i64 0)).setCell ⟨w.heap.size, 4, none⟩ (.int .i64 0)) := ⟨_, rfl⟩
            have KZ := K.out.set5 (.int .i64 0) (.int .i64 0) (.bool false) (.int .i64 0) (.int .i64 0)
            have HZ := Lib.hid (Below.set5 HB.out (Nat.le_refl _) (.int .i64 0) (.int .i64 0) (.bool false) (.int .i64 0) (.int .i64 0))
            rw [← hwz] at KZ HZ
            have q0 := KZ.cell 0
            have q1 := KZ.cell 1
            have q2 := KZ.cell 2
            have q3 := KZ.cell 3
            have q4 := KZ.cell 4
            clear KZ
            have c0 := K.out.cell 0
            have f0 := K.out.free 0
            have c1 := K.out.cell 1
            have f1 := K.out.free 1
            have c2 := K.out.cell 2
            have f2 := K.out.free 2
            have c3 := K.out.cell 3
            have f3 := K.out.free 3
            have c4 := K.out.cell 4
            have f4 := K.out.free 4
            go_wp2
            simp only [← hwz]
            clear hwz
            rw [HR.out]
            refine bodyPost_ret (v := rdAc none) (by simp [results, Tryz.results22, go_sem, q0, q1, q2, q3, q4, rdAc_none]) rfl ⟨rfl, HZ.out⟩
          · have HR : Hid (readAc l = some ⟨1, zeroMv, n⟩) := by
              obtain ⟨g1, g2, g3⟩ := db_yes (n := n) (l := l) (by simpa using hq) HNE.out
              have := ra_back g3
              rw [show ((n.toNat : Nat) : Int) = n by omega] at this
              exact Lib.hid this
            obtain ⟨wz, hwz⟩ : ∃ wz, wz = (((((w5.setCell ⟨w.heap.size, 0, none⟩ (.int .i64 1)).setCell ⟨w.heap.size, 1, none⟩ (.int .i64 0)).setCell ⟨w.heap.size, 2, none⟩ (.bool false)).setCell ⟨w.heap.size, 3, none⟩ (.int .i64 0)).setCell ⟨w.heap.size, 4, none⟩ (.int .i64 n)) := ⟨_, rfl⟩
            have KZ := K.out.set5 (.int .i64 1) (.int .i64 0) (.bool false) (.int .i64 0) (.int .i64 n)
            have HZ := Lib.hid (Below.set5 HB.out (Nat.le_refl _) (.int .i64 1) (.int .i64 0) (.bool false) (.int .i64 0) (.int .i64 n))
            rw [← hwz] at KZ HZ
            have q0 := KZ.cell 0
            have q1 := KZ.cell 1
            have q2 := KZ.cell 2
            have q3 := KZ.cell 3
            have q4 := KZ.cell 4
            clear KZ
            have c0 := K.out.cell 0
            have f0 := K.out.free 0
            have c1 := K.out.cell 1
            have f1 := K.out.free 1
            have c2 := K.out.cell 2
            have f2 := K.out.free 2
            have c3 := K.out.cell 3
            have f3 := K.out.free 3
            have c4 := K.out.cell 4
            have f4 := K.out.free 4
            go_wp2
            simp only [← hwz]
            clear hwz
            rw [HR.out]
            refine bodyPost_ret (v := rdAc (some ⟨1, zeroMv, n⟩)) (by simp [results, Tryz.results22, go_sem, q0, q1, q2, q3, q4, rdAc, zeroMv]) rfl ⟨rfl, HZ.out⟩
end

section

/-- No number below n makes this text. -/
def NopeB (l : List UInt8) (n : Nat) : Prop := ∀ k, k < n → k < 100 → backT ++ dig2 k ≠ l
theorem NopeB.step {l : List UInt8} {n : Nat} (h : NopeB l n) (hne : actText ⟨1, zeroMv, n⟩ ≠ l) (hn : n < 100) : NopeB l (n + 1) := by
  intro k hk h1
  by_cases hlt : k < n
  · exact h k hlt h1
  · obtain rfl : k = n := by omega
    rw [actBack, if_pos (by omega)] at hne
    exact hne
theorem NopeB.all {l : List UInt8} (h : NopeB l 100) : deBack l = none := deBack_none fun k hk => h k hk hk
theorem db_other {l : List UInt8} (h : l.length ≤ 4 ∨ l.head? ≠ some 98) : deBack l = none := deBack_none fun n hn e => by
  subst e
  rcases h with h | h
  · simp [backT] at h
  · exact h rfl
theorem ra_rest {l : List UInt8} (h2 : (l == simpleT) = false) (h3 : deBack l = none) : readAc l = (readMv l).map fun m => ⟨0, m, 0⟩ := by
  cases h : readMv l with
  | some m => rw [ra_move h]; rfl
  | none => rw [ra_none h h2 h3]; rfl
theorem eq98 (c : UInt8) : ((c.toNat : Int) == 98) = (c == 98) := by
  rw [Bool.eq_iff_iff]
  simp only [beq_iff_eq]
  constructor
  · intro h; apply UInt8.toNat_inj.1; simpa using (by omega : c.toNat = 98)
  · intro h; subst h; rfl
theorem rdAc_map (o : Option Mv) : ∃ m ok, m = o.getD zeroMv ∧ ok = o.isSome ∧ rdMv o = .tuple #[.agg #[.int .i64 m.which, .bool m.back, .int .i64 m.at_], .bool ok] ∧ rdAc (o.map fun m => ⟨0, m, 0⟩) = .tuple #[.agg #[.int .i64 0, .int .i64 m.which, .bool m.back, .int .i64 m.at_, .int .i64 0], .bool ok] :=
  ⟨_, _, rfl, rfl, rfl, by cases o <;> rfl⟩

set_option maxRecDepth 100000 in
set_option maxHeartbeats 3200000 in
theorem spec_ReadAct (l : List UInt8) (s : ByteArray) (hs : s = ⟨l.toArray⟩) (w : World) (hl : l.length ≤ 2097152) :
    Calls Tryz.prog 23 #[.string s] w fun e w' => e = .returned (rdAc (readAc l)) ∧ Below w.heap.size w w' := by
  subst hs
  obtain ⟨w0, hw0⟩ : ∃ w0, w0 = w.alloc (.cells #[.int .i64 0, .int .i64 0, .bool false, .int .i64 0, .int .i64 0] 41) := ⟨_, rfl⟩
  have HB : Hid (Below w.heap.size w w0) := by rw [hw0]; exact Lib.hid ((Below.refl _ _).alloc (Nat.le_refl _) _)
  have K : Hid (Blk w.heap.size (.cells #[.int .i64 0, .int .i64 0, .bool false, .int .i64 0, .int .i64 0] 41) w0) := by rw [hw0]; exact Lib.hid (Blk.new w _)
  cases hsm : l == simpleT with
  | true =>
    have HR := Lib.hid (ra_simple (l := l) (by simpa using hsm))
    have hsm' : (l == [115, 105, 109, 112, 108, 101]) = true := hsm
    clear hsm
    go_enter Tryz.func23, Tryz.ntmps23
    go_wp2
    rw [HR.out]
    refine bodyPost_ret (v := rdAc (some ⟨2, zeroMv, 0⟩)) (by simp [results, Tryz.results23, go_sem, rdAc, zeroMv]) rfl ⟨rfl, (Below.refl _ _).alloc (Nat.le_refl _) _⟩
  | false =>
    have hsm' : (l == [115, 105, 109, 112, 108, 101]) = false := hsm
    have HSM := Lib.hid hsm
    clear hsm
    by_cases hgood : 4 < l.length ∧ l.head? = some 98
    · obtain ⟨h4, h98⟩ := hgood
      obtain ⟨r, rfl⟩ : ∃ r, l = 98 :: r := by
        cases l with
        | nil => simp at h98
        | cons c r => simp at h98; exact ⟨r, by rw [h98]⟩
      have hr4 : 4 ≤ r.length := by simp at h4; omega
      clear h98 h4
      go_enter Tryz.func23, Tryz.ntmps23
      go_wp2_with fail
      simp only [← hw0]
      clear hw0
      go_loopw [4] (fun i wr => ∃ n : Nat, n ≤ 100 ∧ i = .int .i64 n ∧ Hid (NopeB (98 :: r) n) ∧ Hid (Blk w.heap.size (.cells #[.int .i64 0, .int .i64 0, .bool false, .int .i64 0, .int .i64 0] 41) wr) ∧ Hid (Below w.heap.size w wr)) (fun i _ => 100 - (intOf i).toNat)
      case atStart => exact ⟨0, by omega, rfl, Lib.hid (by intro k hk; omega), K, HB⟩
      case round =>
        clear HB K
        obtain ⟨n, hn, rfl, HN, K, HB⟩ := hrel
        by_cases hlt : n < 100
        · go_wp2_with fail
          refine (spec_ActText ⟨1, zeroMv, n⟩ _).mono ?_
          rintro e w5 ⟨rfl, hb⟩
          replace K := Lib.hid (K.out.below hb K.out.lt)
          replace HB := Lib.hid (HB.out.trans (hb.mono HB.out.size))
          clear hb
          cases hq : (actText ⟨1, zeroMv, n⟩ == 98 :: r)
          · go_wp2
            go_roundw
            case rel => exact ⟨n + 1, by omega, by go_num, Lib.hid (HN.out.step (by simpa using hq) hlt), K, HB⟩
            case measure => simp [intOf]; omega
          · have HR : Hid (readAc (98 :: r) = some ⟨1, zeroMv, n⟩) := by
              obtain ⟨g1, g2, g3⟩ := db_yes (n := n) (l := 98 :: r) (by simpa using hq) (by simp)
              exact Lib.hid (ra_back g3)
            obtain ⟨wz, hwz⟩ : ∃ wz, wz = (((((w5.setCell ⟨w.heap.size, 0, none⟩ (.int .i64 1)).setCell ⟨w.heap.size, 1, none⟩ (.int .i64 0)).setCell ⟨w.heap.size, 2, none⟩ (.bool false)).setCell ⟨w.heap.size, 3, none⟩ (.int .i64 0)).setCell ⟨w.heap.size, 4, none⟩ (.int .i64 n)) := ⟨_, rfl⟩
            have KZ := K.out.set5 (.int .i64 1) (.int .i64 0) (.bool false) (.int .i64 0) (.int .i64 n)
            have HZ := Lib.hid (Below.set5 HB.out (Nat.le_refl _) (.int .i64 1) (.int .i64 0) (.bool false) (.int .i64 0) (.int .i64 n))
            rw [← hwz] at KZ HZ
            have q0 := KZ.cell 0
            have q1 := KZ.cell 1
            have q2 := KZ.cell 2
            have q3 := KZ.cell 3
            have q4 := KZ.cell 4
            clear KZ
            have c0 := K.out.cell 0
            have f0 := K.out.free 0
            have c1 := K.out.cell 1
            have f1 := K.out.free 1
            have c2 := K.out.cell 2
            have f2 := K.out.free 2
            have c3 := K.out.cell 3
            have f3 := K.out.free 3
            have c4 := K.out.cell 4
            have f4 := K.out.free 4
            go_wp2
            simp only [← hwz]
            clear hwz
            rw [HR.out]
            refine bodyPost_ret (v := rdAc (some ⟨1, zeroMv, n⟩)) (by simp [results, Tryz.results23, go_sem, q0, q1, q2, q3, q4, rdAc, zeroMv]) rfl ⟨rfl, HZ.out⟩
        · obtain rfl : n = 100 := by omega
          have HR := Lib.hid (ra_rest HSM.out HN.out.all)
          go_wp2_with fail
          obtain ⟨m, ok, hm, hok, hq1, hq2⟩ := rdAc_map (readMv (98 :: r))
          have HQ1 := Lib.hid hq1
          have HQ2 := Lib.hid hq2
          clear hm hok hq1 hq2
          refine (spec_ReadMove (98 :: r) _ rfl _ hl).mono ?_
          rintro e w6 ⟨rfl, hb⟩
          rw [HQ1.out]
          replace K := Lib.hid (K.out.below hb K.out.lt)
          replace HB := Lib.hid (HB.out.trans (hb.mono HB.out.size))
          clear hb
          have hb : Below w6.heap.size w6 (w6.alloc (.cells #[.int .i64 m.which, .bool m.back, .int .i64 m.at_] 39)) := (Below.refl _ _).alloc (Nat.le_refl _) _
          replace K := Lib.hid (K.out.below hb K.out.lt)
          replace HB := Lib.hid (HB.out.trans (hb.mono HB.out.size))
          clear hb
          obtain ⟨wz, hwz⟩ : ∃ wz, wz = ((((((w6.alloc (.cells #[.int .i64 m.which, .bool m.back, .int .i64 m.at_] 39)).setCell ⟨w.heap.size, 0, none⟩ (.int .i64 0)).setCell ⟨w.heap.size, 1, none⟩ (.int .i64 m.which)).setCell ⟨w.heap.size, 2, none⟩ (.bool m.back)).setCell ⟨w.heap.size, 3, none⟩ (.int .i64 m.at_)).setCell ⟨w.heap.size, 4, none⟩ (.int .i64 0)) := ⟨_, rfl⟩
          have KZ := K.out.set5 (.int .i64 0) (.int .i64 m.which) (.bool m.back) (.int .i64 m.at_) (.int .i64 0)
          have HZ := Lib.hid (Below.set5 HB.out (Nat.le_refl _) (.int .i64 0) (.int .i64 m.which) (.bool m.back) (.int .i64 m.at_) (.int .i64 0))
          rw [← hwz] at KZ HZ
          have q0 := KZ.cell 0
          have q1 := KZ.cell 1
          have q2 := KZ.cell 2
          have q3 := KZ.cell 3
          have q4 := KZ.cell 4
          clear KZ
          have c0 := K.out.cell 0
          have f0 := K.out.free 0
          have c1 := K.out.cell 1
          have f1 := K.out.free 1
          have c2 := K.out.cell 2
          have f2 := K.out.free 2
          have c3 := K.out.cell 3
          have f3 := K.out.free 3
          have c4 := K.out.cell 4
          have f4 := K.out.free 4
          go_wp2
          simp only [← hwz]
          clear hwz
          rw [HR.out, HQ2.out]
          refine bodyPost_ret (v := .tuple #[.agg #[.int .i64 0, .int .i64 m.which, .bool m.back, .int .i64 m.at_, .int .i64 0], .bool ok]) (by simp [results, Tryz.results23, go_sem, q0, q1, q2, q3, q4]) rfl ⟨rfl, HZ.out⟩
    · have HR := Lib.hid (ra_rest HSM.out (db_other (l := l) (by
        rcases Nat.lt_or_ge 4 l.length with h | h
        · right; intro h'; exact hgood ⟨h, h'⟩
        · left; exact h)))
      by_cases h4 : 4 < l.length
      · obtain ⟨c, r, rfl⟩ : ∃ c r, l = c :: r := by
          cases l with
          | nil => simp at h4
          | cons c r => exact ⟨c, r, rfl⟩
        have hc : (c == 98) = false := by
          cases hc : c == 98
          · rfl
          · exact absurd ⟨h4, by have : c = 98 := by simpa using hc
                                 rw [this]; rfl⟩ hgood
        have h0 : 0 < (ByteArray.mk (c :: r).toArray).size := by show 0 < (c :: r).toArray.size; simp
        have hc' : ((((ByteArray.mk (c :: r).toArray)[0]'h0).toNat : Int) == 98) = false := by rw [idx0, eq98, hc]
        have hr4 : 4 ≤ r.length := by simp at h4; omega
        clear hgood h4 hc
        go_enter Tryz.func23, Tryz.ntmps23
        go_wp2_with fail
        simp only [← hw0]
        clear hw0
        go_loopw [4] (fun i wr => i = .int .i64 0 ∧ Hid (Blk w.heap.size (.cells #[.int .i64 0, .int .i64 0, .bool false, .int .i64 0, .int .i64 0] 41) wr) ∧ Hid (Below w.heap.size w wr)) (fun i _ => 100 - (intOf i).toNat)
        case atStart => exact ⟨rfl, K, HB⟩
        case round =>
          clear HB K
          obtain ⟨rfl, K, HB⟩ := hrel
          go_wp2_with fail
          obtain ⟨m, ok, hm, hok, hq1, hq2⟩ := rdAc_map (readMv (c :: r))
          have HQ1 := Lib.hid hq1
          have HQ2 := Lib.hid hq2
          clear hm hok hq1 hq2
          refine (spec_ReadMove (c :: r) _ rfl _ hl).mono ?_
          rintro e w6 ⟨rfl, hb⟩
          rw [HQ1.out]
          replace K := Lib.hid (K.out.below hb K.out.lt)
          replace HB := Lib.hid (HB.out.trans (hb.mono HB.out.size))
          clear hb
          have hb : Below w6.heap.size w6 (w6.alloc (.cells #[.int .i64 m.which, .bool m.back, .int .i64 m.at_] 39)) := (Below.refl _ _).alloc (Nat.le_refl _) _
          replace K := Lib.hid (K.out.below hb K.out.lt)
          replace HB := Lib.hid (HB.out.trans (hb.mono HB.out.size))
          clear hb
          obtain ⟨wz, hwz⟩ : ∃ wz, wz = ((((((w6.alloc (.cells #[.int .i64 m.which, .bool m.back, .int .i64 m.at_] 39)).setCell ⟨w.heap.size, 0, none⟩ (.int .i64 0)).setCell ⟨w.heap.size, 1, none⟩ (.int .i64 m.which)).setCell ⟨w.heap.size, 2, none⟩ (.bool m.back)).setCell ⟨w.heap.size, 3, none⟩ (.int .i64 m.at_)).setCell ⟨w.heap.size, 4, none⟩ (.int .i64 0)) := ⟨_, rfl⟩
          have KZ := K.out.set5 (.int .i64 0) (.int .i64 m.which) (.bool m.back) (.int .i64 m.at_) (.int .i64 0)
          have HZ := Lib.hid (Below.set5 HB.out (Nat.le_refl _) (.int .i64 0) (.int .i64 m.which) (.bool m.back) (.int .i64 m.at_) (.int .i64 0))
          rw [← hwz] at KZ HZ
          have q0 := KZ.cell 0
          have q1 := KZ.cell 1
          have q2 := KZ.cell 2
          have q3 := KZ.cell 3
          have q4 := KZ.cell 4
          clear KZ
          have c0 := K.out.cell 0
          have f0 := K.out.free 0
          have c1 := K.out.cell 1
          have f1 := K.out.free 1
          have c2 := K.out.cell 2
          have f2 := K.out.free 2
          have c3 := K.out.cell 3
          have f3 := K.out.free 3
          have c4 := K.out.cell 4
          have f4 := K.out.free 4
          go_wp2
          simp only [← hwz]
          clear hwz
          rw [HR.out, HQ2.out]
          refine bodyPost_ret (v := .tuple #[.agg #[.int .i64 0, .int .i64 m.which, .bool m.back, .int .i64 m.at_, .int .i64 0], .bool ok]) (by simp [results, Tryz.results23, go_sem, q0, q1, q2, q3, q4]) rfl ⟨rfl, HZ.out⟩
      · have h4' : l.length ≤ 4 := by omega
        clear hgood h4
        go_enter Tryz.func23, Tryz.ntmps23
        go_wp2_with fail
        simp only [← hw0]
        clear hw0
        go_loopw [4] (fun i wr => i = .int .i64 0 ∧ Hid (Blk w.heap.size (.cells #[.int .i64 0, .int .i64 0, .bool false, .int .i64 0, .int .i64 0] 41) wr) ∧ Hid (Below w.heap.size w wr)) (fun i _ => 100 - (intOf i).toNat)
        case atStart => exact ⟨rfl, K, HB⟩
        case round =>
          clear HB K
          obtain ⟨rfl, K, HB⟩ := hrel
          go_wp2_with fail
          obtain ⟨m, ok, hm, hok, hq1, hq2⟩ := rdAc_map (readMv (l))
          have HQ1 := Lib.hid hq1
          have HQ2 := Lib.hid hq2
          clear hm hok hq1 hq2
          refine (spec_ReadMove (l) _ rfl _ hl).mono ?_
          rintro e w6 ⟨rfl, hb⟩
          rw [HQ1.out]
          replace K := Lib.hid (K.out.below hb K.out.lt)
          replace HB := Lib.hid (HB.out.trans (hb.mono HB.out.size))
          clear hb
          have hb : Below w6.heap.size w6 (w6.alloc (.cells #[.int .i64 m.which, .bool m.back, .int .i64 m.at_] 39)) := (Below.refl _ _).alloc (Nat.le_refl _) _
          replace K := Lib.hid (K.out.below hb K.out.lt)
          replace HB := Lib.hid (HB.out.trans (hb.mono HB.out.size))
          clear hb
          obtain ⟨wz, hwz⟩ : ∃ wz, wz = ((((((w6.alloc (.cells #[.int .i64 m.which, .bool m.back, .int .i64 m.at_] 39)).setCell ⟨w.heap.size, 0, none⟩ (.int .i64 0)).setCell ⟨w.heap.size, 1, none⟩ (.int .i64 m.which)).setCell ⟨w.heap.size, 2, none⟩ (.bool m.back)).setCell ⟨w.heap.size, 3, none⟩ (.int .i64 m.at_)).setCell ⟨w.heap.size, 4, none⟩ (.int .i64 0)) := ⟨_, rfl⟩
          have KZ := K.out.set5 (.int .i64 0) (.int .i64 m.which) (.bool m.back) (.int .i64 m.at_) (.int .i64 0)
          have HZ := Lib.hid (Below.set5 HB.out (Nat.le_refl _) (.int .i64 0) (.int .i64 m.which) (.bool m.back) (.int .i64 m.at_) (.int .i64 0))
          rw [← hwz] at KZ HZ
          have q0 := KZ.cell 0
          have q1 := KZ.cell 1
          have q2 := KZ.cell 2
          have q3 := KZ.cell 3
          have q4 := KZ.cell 4
          clear KZ
          have c0 := K.out.cell 0
          have f0 := K.out.free 0
          have c1 := K.out.cell 1
          have f1 := K.out.free 1
          have c2 := K.out.cell 2
          have f2 := K.out.free 2
          have c3 := K.out.cell 3
          have f3 := K.out.free 3
          have c4 := K.out.cell 4
          have f4 := K.out.free 4
          go_wp2
          simp only [← hwz]
          clear hwz
          rw [HR.out, HQ2.out]
          refine bodyPost_ret (v := .tuple #[.agg #[.int .i64 0, .int .i64 m.which, .bool m.back, .int .i64 m.at_, .int .i64 0], .bool ok]) (by simp [results, Tryz.results23, go_sem, q0, q1, q2, q3, q4]) rfl ⟨rfl, HZ.out⟩
end

section

theorem zMv_eq {m : Mv} (h : zMv m = true) : m = zeroMv := by
  obtain ⟨p, b, q⟩ := m
  simp [zMv] at h
  simp [zeroMv, h]
/-- An act that is named is one of three. -/
theorem named_forms {a : Ac} (h : namedB a = true) : (∃ m, a = ⟨0, m, 0⟩) ∨ (∃ n, a = ⟨1, zeroMv, n⟩) ∨ a = ⟨2, zeroMv, 0⟩ := by
  obtain ⟨k, m, n⟩ := a
  unfold namedB at h
  split at h
  · rename_i h0
    simp at h0 h
    exact .inl ⟨m, by rw [h0, h]⟩
  · split at h
    · rename_i h1
      simp at h1
      exact .inr (.inl ⟨n, by rw [h1, show m = zeroMv from zMv_eq h]⟩)
    · split at h
      · rename_i h2
        simp only [Bool.and_eq_true] at h
        simp at h2
        exact .inr (.inr (by rw [h2, show m = zeroMv from zMv_eq h.1, show n = 0 by simpa using h.2]))
      · cases h
theorem actText_named {a : Ac} (h : actText a ≠ []) : namedB a = true := by
  cases hn : namedB a
  · simp [actText, hn] at h
  · rfl
theorem actText_move (m : Mv) : actText ⟨0, m, 0⟩ = mvText m := by simp [actText, namedB]
theorem actText_simple : actText ⟨2, zeroMv, 0⟩ = simpleT := by rfl
/-- Texts of acts are read. -/
theorem act_read {a : Ac} (h : actText a ≠ []) : readAc (actText a) = some a := by
  rcases named_forms (actText_named h) with ⟨m, rfl⟩ | ⟨n, rfl⟩ | rfl
  · rw [actText_move] at h ⊢
    exact ra_move ((readMv_iff _ _).2 ⟨mvText_pos h, rfl⟩)
  · obtain ⟨h1, h2, h3⟩ := db_yes (n := n) rfl h
    rw [ra_back h3]
    congr 2
    omega
  · exact ra_simple actText_simple
/-- Read texts are canonical. -/
theorem act_canon {l : List UInt8} {a : Ac} (h : readAc l = some a) : actText a = l := by
  cases hm : readMv l with
  | some m =>
    rw [ra_move hm] at h
    injection h with h
    subst h
    rw [actText_move]
    exact ((readMv_iff _ _).1 hm).2
  | none =>
    cases hs : l == simpleT
    · cases hb : deBack l with
      | none => rw [ra_none hm hs hb] at h; cases h
      | some n =>
        rw [ra_back hb] at h
        injection h with h
        subst h
        obtain ⟨h1, h2⟩ := (deBack_iff _ _).1 hb
        rw [actBack, if_pos (by omega)]
        simpa using h2
    · have hs : l = simpleT := by simpa using hs
      rw [ra_simple hs] at h
      injection h with h
      subst h
      rw [hs]; rfl
theorem back_last : ∀ n, n < 100 → (backT ++ dig2 n).getLast? ≠ some 32 := by decide +kernel
theorem actText_last (a : Ac) : (actText a).getLast? ≠ some 32 := by
  by_cases h : actText a = []
  · rw [h]; simp
  · rcases named_forms (actText_named h) with ⟨m, rfl⟩ | ⟨n, rfl⟩ | rfl
    · rw [actText_move] at h ⊢
      obtain ⟨p, q, hp, hq, em⟩ := mvOk_nat (mvText_pos h)
      rw [em]
      exact mvText_last p (by omega) q (by omega) m.back
    · obtain ⟨h1, h2, h3⟩ := db_yes (n := n) rfl h
      rw [actBack, if_pos ⟨h1, h2⟩]
      exact back_last _ (by omega)
    · rw [actText_simple]; decide
/-- With a space behind it no text is one of an act. -/
theorem readAc_more (l : List UInt8) : readAc (l ++ [32]) = none := by
  cases h : readAc (l ++ [32]) with
  | none => rfl
  | some a =>
    have h1 := actText_last a
    rw [act_canon h] at h1
    simp at h1
theorem mvText_nonl : ∀ p, p < 21 → ∀ q, q < 40 → ∀ b : Bool, (mvText ⟨(p : Nat), b, (q : Nat)⟩).all (· != 10) = true := by decide +kernel
theorem back_nonl : ∀ n, n < 100 → (backT ++ dig2 n).all (· != 10) = true := by decide +kernel
theorem actText_nonl (a : Ac) : ∀ j, j < (actText a).length → (actText a)[j]? ≠ some 10 := by
  have key : (actText a).all (· != 10) = true := by
    by_cases h : actText a = []
    · rw [h]; rfl
    · rcases named_forms (actText_named h) with ⟨m, rfl⟩ | ⟨n, rfl⟩ | rfl
      · rw [actText_move] at h ⊢
        obtain ⟨p, q, hp, hq, em⟩ := mvOk_nat (mvText_pos h)
        rw [em]
        exact mvText_nonl p (by omega) q (by omega) m.back
      · obtain ⟨h1, h2, h3⟩ := db_yes (n := n) rfl h
        rw [actBack, if_pos ⟨h1, h2⟩]
        exact back_nonl _ (by omega)
      · rw [actText_simple]; decide
  intro j hj he
  rw [List.getElem?_eq_getElem hj] at he
  injection he with he
  have h2 := List.all_eq_true.1 key _ (List.getElem_mem hj)
  rw [he] at h2
  simp at h2
/-- Journals are read. -/
theorem jr_read : ∀ l : List Ac, (∀ a ∈ l, actText a ≠ []) → readJr (jrGo l) = (l, (jrGo l).length)
  | [], _ => by
    have : readJr [] = ([], 0) := readJr_no (nl_not (by intro j hj; simp at hj))
    simpa [jrGo] using this
  | a :: r, h => by
    have ih := jr_read r fun b hb => h b (List.mem_cons_of_mem _ hb)
    have e : jrGo (a :: r) = actText a ++ ([10] ++ jrGo r) := by simp [jrGo]
    rw [e]
    have hn : nl (actText a ++ ([10] ++ jrGo r)) = some (actText a).length := by
      refine nl_of ?_ ?_
      · rw [List.getElem?_append_right (Nat.le_refl _)]
        simp
      · intro j hj
        rw [List.getElem?_append_left hj]
        exact actText_nonl a j hj
    have hd : (actText a ++ ([10] ++ jrGo r)).drop ((actText a).length + 1) = jrGo r := by
      rw [← List.drop_drop, List.drop_left]
      rfl
    have ht : readAc ((actText a ++ ([10] ++ jrGo r)).take (actText a).length) = some a := by
      rw [List.take_left]
      exact act_read (h a (List.mem_cons_self ..))
    rw [readJr_more hn ht, hd, ih]
    simp
    omega
end

section

theorem readAc_nil : readAc [] = none := by
  cases h : readAc [] with
  | none => rfl
  | some a =>
    exfalso
    have hr : readMv ([] : List UInt8) = none := readMv_none fun m hm e => by
      unfold mvText at e
      rw [if_pos hm] at e
      cases hb : m.back <;> simp [hb] at e
    have hd : deBack ([] : List UInt8) = none := deBack_none fun n hn e => by simp [backT] at e
    rw [ra_none hr rfl hd] at h
    cases h
theorem nl_take {l : List UInt8} {k i : Nat} (h : nl (l.take k) = some i) : nl l = some i ∧ i < k := by
  obtain ⟨h1, h2, h3⟩ := nl_some h
  rw [List.length_take] at h2
  have hik : i < k := by omega
  refine ⟨nl_of ?_ fun j hj => ?_, hik⟩
  · rw [List.getElem?_take_of_lt hik] at h1; exact h1
  · have := h3 j hj
    rwa [List.getElem?_take_of_lt (by omega)] at this
/-- Of a beginning the first ones of the acts are read. -/
theorem readJr_pre : ∀ (n : Nat) (l : List UInt8) (k : Nat), l.length ≤ n → (readJr (l.take k)).1 <+: (readJr l).1 ∧ (readJr (l.take k)).2 ≤ k := by
  intro n
  induction n with
  | zero =>
    intro l k h
    obtain rfl : l = [] := List.eq_nil_of_length_eq_zero (by omega)
    have e : readJr ([] : List UInt8) = ([], 0) := readJr_no rfl
    simp [e]
  | succ n ih =>
    intro l k h
    cases hn : nl (l.take k) with
    | none => rw [readJr_no hn]; simp
    | some i =>
      obtain ⟨h1, h2⟩ := nl_take hn
      have ht : (l.take k).take i = l.take i := by rw [List.take_take, Nat.min_eq_left (by omega)]
      cases ha : readAc (l.take i) with
      | none => rw [readJr_bad hn (by rw [ht]; exact ha)]; simp
      | some a =>
        rw [readJr_more hn (by rw [ht]; exact ha), readJr_more h1 ha]
        have hd : (l.take k).drop (i + 1) = (l.drop (i + 1)).take (k - (i + 1)) := by rw [List.drop_take]
        have hl := (nl_some h1).2.1
        have := ih (l.drop (i + 1)) (k - (i + 1)) (by rw [List.length_drop]; omega)
        rw [hd]
        refine ⟨(List.prefix_cons_inj a).2 this.1, ?_⟩
        have := this.2
        simp only
        omega
/-- The texts of the acts that are read are what was read. -/
theorem readJr_text : ∀ (n : Nat) (l : List UInt8), l.length ≤ n → jrGo (readJr l).1 = l.take (readJr l).2 ∧ (readJr l).2 ≤ l.length ∧ (∀ a ∈ (readJr l).1, actText a ≠ []) ∧ 2 * (readJr l).1.length ≤ (readJr l).2 := by
  intro n
  induction n with
  | zero =>
    intro l h
    obtain rfl : l = [] := List.eq_nil_of_length_eq_zero (by omega)
    have e : readJr ([] : List UInt8) = ([], 0) := readJr_no rfl
    simp [e, jrGo]
  | succ n ih =>
    intro l h
    cases hn : nl l with
    | none => rw [readJr_no hn]; simp [jrGo]
    | some i =>
      have hl := (nl_some hn).2.1
      cases ha : readAc (l.take i) with
      | none => rw [readJr_bad hn ha]; simp [jrGo]
      | some a =>
        have hc := act_canon ha
        rw [readJr_more hn ha]
        obtain ⟨h1, h2, h3, h4⟩ := ih (l.drop (i + 1)) (by rw [List.length_drop]; omega)
        rw [List.length_drop] at h2
        have h10 : l.drop i = 10 :: l.drop (i + 1) := by
          rw [List.drop_eq_getElem_cons hl]
          have := (nl_some hn).1
          rw [List.getElem?_eq_getElem hl] at this
          injection this with this
          rw [this]
        refine ⟨?_, ?_, ?_, ?_⟩
        · have e : jrGo (a :: (readJr (l.drop (i + 1))).1) = actText a ++ [10] ++ jrGo (readJr (l.drop (i + 1))).1 := by simp [jrGo]
          show jrGo (a :: (readJr (l.drop (i + 1))).1) = l.take (i + 1 + (readJr (l.drop (i + 1))).2)
          rw [e, hc, h1, Nat.add_assoc, List.take_add, h10, Nat.add_comm 1 (readJr (l.drop (i + 1))).2, List.take_succ_cons]
          simp
        · simp only; omega
        · intro b hb
          rcases List.mem_cons.1 hb with rfl | hb
          · rw [hc]
            intro h0
            rw [h0, readAc_nil] at ha
            cases ha
          · exact h3 b hb
        · have hi0 : i ≠ 0 := fun h0 => by
            rw [h0, List.take_zero, readAc_nil] at ha
            cases ha
          simp only [List.length_cons]; omega
theorem jrText_back (l : List UInt8) : jrText (readJr l).1 = l.take (readJr l).2 := by
  obtain ⟨h1, _, h3, _⟩ := readJr_text l.length l (Nat.le_refl _)
  have hk : jrOk (readJr l).1 = true := List.all_eq_true.2 fun a ha => by
    have := h3 a ha
    cases hx : actText a with
    | nil => exact absurd hx this
    | cons c r => rfl
  rw [jrText, if_pos hk, h1]
end

section

set_option maxRecDepth 100000 in
set_option maxHeartbeats 1600000 in
theorem impl_JournalText (lo hi : Nat) (v : Value) (xs : List Ac) (w : World) (hx : SlA lo hi w v xs) (hm : xs.length ≤ 1048576) (hhi : hi ≤ w.heap.size) :
    Calls Tryz.prog 13 #[v] w fun e w' => e = .returned (.string ⟨(jrText xs).toArray⟩) ∧ Below w.heap.size w w' := by
  obtain ⟨a, cap, rfl, hcap, hcm⟩ := hx.shape
  have HX := Lib.hid hx
  clear hx hcm
  go_enter Tryz.func13, Tryz.ntmps13
  go_wp2
  go_loopw [9] (fun i wr => ∃ k : Nat, ∃ l : List UInt8, k ≤ xs.length ∧ i = .int .i64 k ∧ l.length ≤ k * 8 ∧ Hid (l = jrGo (xs.take k)) ∧ Hid (∀ j (h : j < xs.length), j < k → actText xs[j] ≠ []) ∧ Bld w.heap.size w.heap.size l wr ∧ Below w.heap.size w wr) (fun i _ => xs.length - (intOf i).toNat)
  case atStart => exact ⟨0, [], by omega, rfl, Nat.le_refl _, Lib.hid rfl, Lib.hid (by omega), Bld_new w, (Below.refl _ _).alloc (Nat.le_refl _) _⟩
  case round =>
    obtain ⟨k, l, hk, rfl, hll, HL, HN, HB, hb⟩ := hrel
    have HB' := Lib.hid HB
    clear HB
    by_cases hlt : k < xs.length
    · obtain ⟨b, off, rfl, _, hbh, hbs, q0, q1, q2, q3, q4⟩ := (HX.out.below hb hhi).get k hlt
      have hsz := hb.size
      have HBe := Lib.hid hb
      clear hb
      go_wp2_with fail
      refine (impl_ActText xs[k] _).mono ?_
      rintro e w1 ⟨rfl, hb1⟩
      replace hb1 := Below.from_alloc hb1
      have HBl := Lib.hid (Bld.below HB'.out hb1)
      replace HBe := Lib.hid (HBe.out.trans (hb1.mono hsz))
      have hsz1 := HBe.out.size
      clear HB' hb1
      clear q0 q1 q2 q3 q4
      have hl7 := actText_len xs[k]
      obtain ⟨t, ht⟩ : ∃ t, t = actText xs[k] := ⟨_, rfl⟩
      rw [← ht] at hl7 ⊢
      have HT := Lib.hid ht
      clear ht
      cases t
      · go_wp2
        go_ret
        exact ⟨ret_str (a := []) (by rw [jrText, jrOk_no hlt HT.out.symm]; rfl), HBe.out⟩
      · rename_i c r
        have hr6 : r.length ≤ 6 := by simpa using hl7
        go_wp2_with fail
        refine (WriteString_any w.heap.size w.heap.size l ((c :: r) ++ [10]) _ _ HBl.out (by show ByteArray.mk (c :: r).toArray ++ ByteArray.mk [10].toArray = _; rw [ByteArray.mk_append_mk]) (by rw [List.length_append]; simp at hl7 ⊢; omega) hsz1).mono ?_
        rintro e w2 ⟨rfl, h1, h2⟩
        go_wp2
        go_roundw
        case rel =>
          refine ⟨k + 1, l ++ ((c :: r) ++ [10]), by omega, by go_num, by simp at hl7 ⊢; omega, Lib.hid (by rw [jrGo_take xs k hlt, HL.out, HT.out]), Lib.hid fun j h hj => ?_, h1, HBe.out.trans h2⟩
          rcases Nat.lt_or_ge j k with h' | h'
          · exact HN.out j h h'
          · obtain rfl : j = k := by omega
            rw [← HT.out]; simp
        case measure => simp [intOf]; omega
    · obtain rfl : k = xs.length := by omega
      have hsz := hb.size
      have HBe := Lib.hid hb
      clear hb
      go_wp2_with (go_at_call 38; refine (String_any w.heap.size w.heap.size l _ HB'.out hsz).mono ?_; rintro e w1 ⟨rfl, h1⟩)
      go_ret
      exact ⟨ret_str (by rw [HL.out, List.take_length, jrText, jrOk_yes (fun j h => HN.out j h h)]; rfl), HBe.out.trans h1⟩
end

section

theorem strCat3 (l t : List UInt8) : ByteArray.mk l.toArray ++ ByteArray.mk t.toArray ++ ByteArray.mk #[10] = ByteArray.mk (l ++ (t ++ [10])).toArray := by
  show ByteArray.mk l.toArray ++ ByteArray.mk t.toArray ++ ByteArray.mk [10].toArray = _
  rw [ByteArray.mk_append_mk, ByteArray.mk_append_mk, List.append_assoc]

set_option maxRecDepth 100000 in
set_option maxHeartbeats 1600000 in
theorem spec_JournalText (lo hi : Nat) (v : Value) (xs : List Ac) (w : World) (hx : SlA lo hi w v xs) (hm : xs.length ≤ 1048576) (hhi : hi ≤ w.heap.size) :
    Calls Tryz.prog 17 #[v] w fun e w' => e = .returned (.string ⟨(jrText xs).toArray⟩) ∧ Below w.heap.size w w' := by
  obtain ⟨a, cap, rfl, hcap, hcm⟩ := hx.shape
  have HX := Lib.hid hx
  clear hx hcm
  go_enter Tryz.func17, Tryz.ntmps17
  go_wp2
  go_loopw [3, 4] (fun s i wr => ∃ k : Nat, ∃ l : List UInt8, k ≤ xs.length ∧ i = .int .i64 k ∧ s = .string ⟨l.toArray⟩ ∧ l.length ≤ k * 8 ∧ Hid (l = jrGo (xs.take k)) ∧ Hid (∀ j (h : j < xs.length), j < k → actText xs[j] ≠ []) ∧ Below w.heap.size w wr) (fun _ i _ => xs.length - (intOf i).toNat)
  case atStart => exact ⟨0, [], by omega, rfl, rfl, Nat.le_refl _, Lib.hid rfl, Lib.hid (by omega), Below.refl _ _⟩
  case round =>
    obtain ⟨k, l, hk, rfl, rfl, hll, HL, HN, hb⟩ := hrel
    by_cases hlt : k < xs.length
    · obtain ⟨b, off, rfl, _, hbh, hbs, q0, q1, q2, q3, q4⟩ := (HX.out.below hb hhi).get k hlt
      have hsz := hb.size
      have HBe := Lib.hid hb
      clear hb
      go_wp2_with fail
      refine (spec_ActText xs[k] _).mono ?_
      rintro e w1 ⟨rfl, hb1⟩
      clear q0 q1 q2 q3 q4
      replace HBe := Lib.hid (HBe.out.trans (hb1.mono hsz))
      have hsz1 := HBe.out.size
      obtain ⟨_, _, e, _, _, hbs1, q0, q1, q2, q3, q4⟩ := (HX.out.below HBe.out hhi).get k hlt
      injection e with e; injection e with e1 e2; subst e1 e2
      clear hb1
      have hl7 := actText_len xs[k]
      obtain ⟨t, ht⟩ : ∃ t, t = actText xs[k] := ⟨_, rfl⟩
      have HT := Lib.hid ht
      rw [← ht] at hl7 ⊢
      clear ht
      cases t
      · go_wp2
        go_ret
        exact ⟨ret_str (a := []) (by rw [jrText, jrOk_no hlt HT.out.symm]; rfl), HBe.out⟩
      · rename_i c r
        have hr6 : r.length ≤ 6 := by simpa using hl7
        go_wp2_with fail
        refine (spec_ActText xs[k] _).mono ?_
        rintro e w2 ⟨rfl, hb2⟩
        rw [← HT.out]
        have HB2 := Lib.hid (HBe.out.trans (hb2.mono hsz1))
        clear hb2 q0 q1 q2 q3 q4
        go_wp2
        go_roundw
        case rel =>
          refine ⟨k + 1, l ++ ((c :: r) ++ [10]), by omega, by go_num, by congr 1; exact strCat3 l (c :: r), by simp; omega, Lib.hid (by rw [jrGo_take xs k hlt, HL.out, HT.out]), Lib.hid fun j h hj => ?_, HB2.out⟩
          rcases Nat.lt_or_ge j k with h' | h'
          · exact HN.out j h h'
          · obtain rfl : j = k := by omega
            rw [← HT.out]; simp
        case measure => simp [intOf]; omega
    · obtain rfl : k = xs.length := by omega
      go_wp2
      go_ret
      exact ⟨ret_str (by rw [HL.out, List.take_length, jrText, jrOk_yes (fun j h => HN.out j h h)]; rfl), hb⟩
end

section

def RetJ (P : Value → Int → World → Prop) (e : Ending) (w' : World) : Prop := ∃ v n, e = .returned (.tuple #[v, .int .i64 n]) ∧ P v n w'
theorem extN (l : List UInt8) (n : Nat) : ByteArray.extract ⟨l.toArray⟩ n l.length = ⟨(l.drop n).toArray⟩ := by
  apply ByteArray.ext
  simp [ByteArray.data_extract]
  exact List.take_of_length_le (by simp)
theorem rdAc_eq (o : Option Ac) : ∃ m ok, m = o.getD zAc ∧ ok = o.isSome ∧ rdAc o = .tuple #[.agg #[.int .i64 m.kind, .int .i64 m.step.which, .bool m.step.back, .int .i64 m.step.at_, .int .i64 m.count], .bool ok] := ⟨_, _, rfl, rfl, rfl⟩
theorem jr_step {l : List UInt8} {xs : List Ac} {n i : Nat} {a : Ac} (h : readJr l = (xs ++ (readJr (l.drop n)).1, n + (readJr (l.drop n)).2)) (hn : nl (l.drop n) = some i) (ha : readAc ((l.drop n).take i) = some a) :
    readJr l = ((xs ++ [a]) ++ (readJr (l.drop (n + (i + 1)))).1, n + (i + 1) + (readJr (l.drop (n + (i + 1)))).2) := by
  rw [h, readJr_more hn ha, List.drop_drop, List.append_assoc]
  simp [Nat.add_assoc]
theorem jr_end {l : List UInt8} {xs : List Ac} {n : Nat} (h : readJr l = (xs ++ (readJr (l.drop n)).1, n + (readJr (l.drop n)).2)) (h0 : readJr (l.drop n) = ([], 0)) : readJr l = (xs, n) := by
  rw [h, h0]; simp

set_option maxRecDepth 100000 in
set_option maxHeartbeats 3200000 in
theorem impl_ReadJournal (l : List UInt8) (s : ByteArray) (hs : s = ⟨l.toArray⟩) (w : World) (hE : Env w) (hl : l.length ≤ 2097152) :
    Calls Tryz.prog 5 #[.string s] w (RetJ fun v n w' => n = (readJr l).2 ∧ OwnA w.heap.size w'.heap.size 41 w' v (readJr l).1 ∧ Below w.heap.size w w') := by
  subst hs
  go_enter Tryz.func5, Tryz.ntmps5
  go_wp2
  go_loopw [4, 5] (fun v i wr => ∃ n : Nat, ∃ xs : List Ac, n ≤ l.length ∧ i = .int .i64 n ∧ xs.length ≤ n ∧ Hid (readJr l = (xs ++ (readJr (l.drop n)).1, n + (readJr (l.drop n)).2)) ∧ Hid (OwnA w.heap.size wr.heap.size 41 wr v xs) ∧ Hid (Below w.heap.size w wr)) (fun _ i _ => l.length - (intOf i).toNat)
  case atStart => exact ⟨0, [], by omega, rfl, Nat.le_refl _, Lib.hid (by simp), Lib.hid (Own.nil _ _ _ _ _), Lib.hid (Below.refl _ _)⟩
  case round =>
    obtain ⟨n, xs, hn, rfl, hxs, HJ, HO, HB⟩ := hrel
    have hd : (l.drop n).length ≤ 2097152 := by rw [List.length_drop]; omega
    go_wp2_with fail
    refine (Cut_any (l.drop n) [10] _ _ (extN l n) rfl _ (hE.below HB.out) hd).mono ?_
    rintro e w1 ⟨rfl, hb⟩
    have hsz := hb.size
    replace HO := Lib.hid (OwnA.below HO.out hb (Nat.le_refl _))
    replace HB := Lib.hid (HB.out.trans (hb.mono HB.out.size))
    clear hb
    have HE := Lib.hid (hE.below HB.out)
    have HN := Lib.hid hn
    cases hnl : nl (l.drop n) with
    | none =>
      have HR := Lib.hid (jr_end HJ.out (readJr_no hnl))
      rw [cut_no hnl]
      clear hnl
      go_wp2_with fail
      refine (impl_ReadAct (l.drop n) _ rfl _ HE.out hd).mono ?_
      rintro e w2 ⟨rfl, hb⟩
      have hs2 := hb.size
      obtain ⟨m, ok, hm, hok, heq⟩ := rdAc_eq (readAc (l.drop n))
      have HQ := Lib.hid heq
      rw [HQ.out]
      clear hm hok heq
      have hba : Below w2.heap.size w2 (w2.alloc (.cells #[.int .i64 m.kind, .int .i64 m.step.which, .bool m.step.back, .int .i64 m.step.at_, .int .i64 m.count] 41)) := (Below.refl _ _).alloc (Nat.le_refl _) _
      replace HB := Lib.hid ((HB.out.trans (hb.mono HB.out.size)).trans (hba.mono (by have := HB.out.size; omega)))
      replace HO := Lib.hid (OwnA.below (OwnA.below HO.out hb hsz) hba (by omega))
      have HS : Hid (wr.heap.size ≤ (w2.alloc (.cells #[.int .i64 m.kind, .int .i64 m.step.which, .bool m.step.back, .int .i64 m.step.at_, .int .i64 m.count] 41)).heap.size) := Lib.hid (by simp; omega)
      clear hb hba
      go_wp2
      go_ret2
      refine ⟨_, _, rfl, ?_, ?_, HB.out⟩
      · rw [HR.out]
      · rw [HR.out]; exact Own.wide HO.out HS.out
    | some i =>
      obtain ⟨_, hi, _⟩ := nl_some hnl
      have hin : n + i < l.length := by rw [List.length_drop] at hi; omega
      have hln : ((l.drop n).take i).length ≤ 2097152 := by rw [List.length_take]; omega
      have HLn : Hid (((l.drop n).take i).length = i) := Lib.hid (by rw [List.length_take]; omega)
      rw [cut_nl hnl]
      have HNL := Lib.hid hnl
      clear hnl hi
      obtain ⟨p, hp⟩ : ∃ p, p = (l.drop n).take i := ⟨_, rfl⟩
      obtain ⟨q, hq⟩ : ∃ q, q = (l.drop n).drop (i + 1) := ⟨_, rfl⟩
      rw [← hp] at hln HLn
      simp only [← hp, ← hq]
      have HP := Lib.hid hp
      clear hp hq
      have hpl : p.length = i := HLn.out
      go_wp2_with fail
      refine (impl_ReadAct p _ rfl _ HE.out hln).mono ?_
      rintro e w2 ⟨rfl, hb⟩
      have hs2 := hb.size
      cases hra : readAc p with
      | none =>
        have HR := Lib.hid (jr_end HJ.out (readJr_bad HNL.out (by rw [← HP.out]; exact hra)))
        rw [rdAc_none]
        clear hra
        have hba : Below w2.heap.size w2 (w2.alloc (.cells #[.int .i64 0, .int .i64 0, .bool false, .int .i64 0, .int .i64 0] 41)) := (Below.refl _ _).alloc (Nat.le_refl _) _
        replace HB := Lib.hid ((HB.out.trans (hb.mono HB.out.size)).trans (hba.mono (by have := HB.out.size; omega)))
        replace HO := Lib.hid (OwnA.below (OwnA.below HO.out hb hsz) hba (by omega))
        have HS : Hid (wr.heap.size ≤ (w2.alloc (.cells #[.int .i64 0, .int .i64 0, .bool false, .int .i64 0, .int .i64 0] 41)).heap.size) := Lib.hid (by simp; omega)
        clear hb hba
        go_wp2
        go_ret2
        refine ⟨_, _, rfl, ?_, ?_, HB.out⟩
        · rw [HR.out]
        · rw [HR.out]; exact Own.wide HO.out HS.out
      | some m =>
        have HR := Lib.hid (jr_step HJ.out HNL.out (by rw [← HP.out]; exact hra))
        rw [rdAc_some]
        clear hra
        replace HB := Lib.hid (HB.out.trans (hb.mono HB.out.size))
        have hown : OwnA w.heap.size wr.heap.size 41 (w2.alloc (.cells #[.int .i64 m.kind, .int .i64 m.step.which, .bool m.step.back, .int .i64 m.step.at_, .int .i64 m.count] 41)) u4 xs := OwnA.below (OwnA.below HO.out hb hsz) ((Below.refl w2.heap.size w2).alloc (Nat.le_refl _) (.cells #[.int .i64 m.kind, .int .i64 m.step.which, .bool m.step.back, .int .i64 m.step.at_, .int .i64 m.count] 41)) (by omega)
        have hs0 := HB.out.size
        clear hb HO
        go_wp2_with (at_builtin; go_loud (refine wpList_app_lit (w2.alloc (.cells #[.int .i64 m.kind, .int .i64 m.step.which, .bool m.step.back, .int .i64 m.step.at_, .int .i64 m.count] 41)) rfl _ _ 24 rfl 41 (.agg #[.int .i64 0, .int .i64 0, .bool false, .int .i64 0, .int .i64 0]) 5 40 Tryz.underlying24 info_act rfl (by decide) (by decide) rfl hown 1 (encAc m) (by rw [alloc_size]; rfl) rfl (by simpa [acs] using acs_one [m]) rfl ?c1 ?c2 ?_))
        case c1 => omega
        case c2 => simp; omega
        intro v' w3 hown' hout _
        have HO' : Hid (OwnA w.heap.size w3.heap.size 41 w3 v' (xs ++ [m])) := by
          refine Lib.hid ?_
          unfold OwnA
          rw [List.length_append, show acs (xs ++ [m]) = acs xs ++ encAc m by simp [acs]]
          exact hown'
        have hba : Below w2.heap.size w2 (w2.alloc (.cells #[.int .i64 m.kind, .int .i64 m.step.which, .bool m.step.back, .int .i64 m.step.at_, .int .i64 m.count] 41)) := (Below.refl _ _).alloc (Nat.le_refl _) _
        have HB' := Lib.hid (Below.outside (HB.out.trans (hba.mono hs0)) hout (Nat.le_refl _) (by simp; omega))
        clear hown hown' hout hba
        go_wp2
        go_roundw
        case rel => exact ⟨n + (i + 1), xs ++ [m], by omega, by go_num, by simp; omega, HR, HO', HB'⟩
        case measure => simp [intOf]; omega
end

section

theorem extM (l : List UInt8) (n k : Nat) : ByteArray.extract ⟨l.toArray⟩ n k = ⟨((l.drop n).take (k - n)).toArray⟩ := by
  apply ByteArray.ext
  simp [ByteArray.data_extract]
theorem at10 (l : List UInt8) (k : Nat) (_hk : k < l.length) (h : k < (ByteArray.mk l.toArray).size) : ((((ByteArray.mk l.toArray)[k]'h).toNat : Int) == 10) = (l[k] == 10) := by
  rw [show (ByteArray.mk l.toArray)[k]'h = l[k] from rfl, Bool.eq_iff_iff]
  simp only [beq_iff_eq]
  constructor
  · intro h; apply UInt8.toNat_inj.1; simpa using (by omega : l[k].toNat = 10)
  · intro h; rw [h]; rfl
theorem nl_at {l : List UInt8} {f k : Nat} (hf : f ≤ k) (h1 : l[k]? = some 10) (h2 : ∀ j, f ≤ j → j < k → l[j]? ≠ some 10) : nl (l.drop f) = some (k - f) := by
  refine nl_of ?_ fun j hj => ?_
  · rw [List.getElem?_drop, show f + (k - f) = k by omega]; exact h1
  · rw [List.getElem?_drop]; exact h2 _ (by omega) (by omega)
theorem nl_end {l : List UInt8} {f : Nat} (h2 : ∀ j, f ≤ j → j < l.length → l[j]? ≠ some 10) : nl (l.drop f) = none := by
  refine nl_not fun j hj => ?_
  rw [List.length_drop] at hj
  rw [List.getElem?_drop]; exact h2 _ (by omega) (by omega)

set_option maxRecDepth 100000 in
set_option maxHeartbeats 3200000 in
theorem spec_ReadJournal (l : List UInt8) (s : ByteArray) (hs : s = ⟨l.toArray⟩) (w : World) (hl : l.length ≤ 2097152) :
    Calls Tryz.prog 6 #[.string s] w (RetJ fun v n w' => n = (readJr l).2 ∧ OwnA w.heap.size w'.heap.size 41 w' v (readJr l).1 ∧ Below w.heap.size w w') := by
  subst hs
  have H0 : Hid (OwnA w.heap.size (w.alloc (.cells #[] 41)).heap.size 41 (w.alloc (.cells #[] 41)) (.slice (some ⟨w.heap.size, 0, none⟩) 0 0) []) := Lib.hid (by rw [alloc_size]; exact Own.lit 5 41 w [] 0 (by omega) rfl)
  have HB0 : Hid (Below w.heap.size w (w.alloc (.cells #[] 41))) := Lib.hid ((Below.refl _ _).alloc (Nat.le_refl _) _)
  go_enter Tryz.func6, Tryz.ntmps6
  go_wp2
  go_loopw [4, 5, 6] (fun v i c wr => ∃ f k : Nat, ∃ xs : List Ac, f ≤ k ∧ k ≤ l.length ∧ i = .int .i64 f ∧ c = .int .i64 k ∧ xs.length ≤ f ∧ Hid (readJr l = (xs ++ (readJr (l.drop f)).1, f + (readJr (l.drop f)).2)) ∧ Hid (∀ j, f ≤ j → j < k → l[j]? ≠ some 10) ∧ Hid (OwnA w.heap.size wr.heap.size 41 wr v xs) ∧ Hid (Below w.heap.size w wr)) (fun _ _ c _ => l.length - (intOf c).toNat)
  case atStart => exact ⟨0, 0, [], Nat.le_refl _, by omega, rfl, rfl, Nat.le_refl _, Lib.hid (by simp), Lib.hid (by omega), H0, HB0⟩
  case round =>
    clear H0 HB0
    obtain ⟨f, k, xs, hfk, hk, rfl, rfl, hxs, HJ, HNo, HO, HB⟩ := hrel
    by_cases hlt : k < l.length
    · have hks : k < (ByteArray.mk l.toArray).size := by show k < l.toArray.size; simpa using hlt
      cases h10 : l[k] == 10 with
      | false =>
        have ht : ((((ByteArray.mk l.toArray)[k]'hks).toNat : Int) == 10) = false := by rw [at10 l k hlt, h10]
        have HN' : Hid (∀ j, f ≤ j → j < k + 1 → l[j]? ≠ some 10) := Lib.hid (by
          intro j h1 h2
          by_cases hj : j < k
          · exact HNo.out j h1 hj
          · obtain rfl : j = k := by omega
            rw [List.getElem?_eq_getElem hlt]
            intro e; injection e with e; rw [e] at h10; cases h10)
        clear h10
        go_wp2
        go_roundw
        case rel => exact ⟨f, k + 1, xs, by omega, by omega, rfl, by go_num, hxs, HJ, HN', HO, HB⟩
        case measure => simp [intOf]; omega
      | true =>
        have ht : ((((ByteArray.mk l.toArray)[k]'hks).toNat : Int) == 10) = true := by rw [at10 l k hlt, h10]
        have HNL := Lib.hid (nl_at hfk (by rw [List.getElem?_eq_getElem hlt]; congr 1; simpa using h10) HNo.out)
        clear h10
        obtain ⟨p, hp⟩ : ∃ p, p = (l.drop f).take (k - f) := ⟨_, rfl⟩
        have hln : p.length ≤ 2097152 := by rw [hp, List.length_take, List.length_drop]; omega
        have hpe := extM l f k
        rw [← hp] at hpe
        have HP := Lib.hid hp
        clear hp
        have HPE := Lib.hid hpe
        clear hpe
        go_wp2_with fail
        refine (spec_ReadAct p _ HPE.out _ hln).mono ?_
        rintro e w2 ⟨rfl, hb⟩
        have hs2 := hb.size
        cases hra : readAc p with
        | none =>
          have HR := Lib.hid (jr_end HJ.out (readJr_bad HNL.out (by rw [← HP.out]; exact hra)))
          rw [rdAc_none]
          clear hra
          have hba : Below w2.heap.size w2 (w2.alloc (.cells #[.int .i64 0, .int .i64 0, .bool false, .int .i64 0, .int .i64 0] 41)) := (Below.refl _ _).alloc (Nat.le_refl _) _
          have hs0 := HB.out.size
          replace HB := Lib.hid ((HB.out.trans (hb.mono HB.out.size)).trans (hba.mono (by omega)))
          replace HO := Lib.hid (OwnA.below (OwnA.below HO.out hb (Nat.le_refl _)) hba (by omega))
          have HS : Hid (wr.heap.size ≤ (w2.alloc (.cells #[.int .i64 0, .int .i64 0, .bool false, .int .i64 0, .int .i64 0] 41)).heap.size) := Lib.hid (by simp; omega)
          clear hb hba
          go_wp2
          go_ret2
          refine ⟨_, _, rfl, ?_, ?_, HB.out⟩
          · rw [HR.out]
          · rw [HR.out]; exact Own.wide HO.out HS.out
        | some m =>
          have HR := Lib.hid (jr_step HJ.out HNL.out (by rw [← HP.out]; exact hra))
          rw [rdAc_some]
          clear hra
          have hs0 := HB.out.size
          replace HB := Lib.hid (HB.out.trans (hb.mono HB.out.size))
          have hown : OwnA w.heap.size wr.heap.size 41 (w2.alloc (.cells #[.int .i64 m.kind, .int .i64 m.step.which, .bool m.step.back, .int .i64 m.step.at_, .int .i64 m.count] 41)) u4 xs := OwnA.below (OwnA.below HO.out hb (Nat.le_refl _)) ((Below.refl w2.heap.size w2).alloc (Nat.le_refl _) (.cells #[.int .i64 m.kind, .int .i64 m.step.which, .bool m.step.back, .int .i64 m.step.at_, .int .i64 m.count] 41)) (by omega)
          clear hb HO
          go_wp2_with (at_builtin; refine wpList_app_lit (w2.alloc (.cells #[.int .i64 m.kind, .int .i64 m.step.which, .bool m.step.back, .int .i64 m.step.at_, .int .i64 m.count] 41)) rfl _ _ 24 rfl 41 (.agg #[.int .i64 0, .int .i64 0, .bool false, .int .i64 0, .int .i64 0]) 5 40 Tryz.underlying24 info_act rfl (by decide) (by decide) rfl hown 1 (encAc m) (by rw [alloc_size]; rfl) rfl (by simpa [acs] using acs_one [m]) rfl ?c1 ?c2 ?_)
          case c1 => omega
          case c2 => simp; omega
          intro v' w3 hown' hout _
          have HO' : Hid (OwnA w.heap.size w3.heap.size 41 w3 v' (xs ++ [m])) := by
            refine Lib.hid ?_
            unfold OwnA
            rw [List.length_append, show acs (xs ++ [m]) = acs xs ++ encAc m by simp [acs]]
            exact hown'
          have hba : Below w2.heap.size w2 (w2.alloc (.cells #[.int .i64 m.kind, .int .i64 m.step.which, .bool m.step.back, .int .i64 m.step.at_, .int .i64 m.count] 41)) := (Below.refl _ _).alloc (Nat.le_refl _) _
          have HB' := Lib.hid (Below.outside (HB.out.trans (hba.mono (by omega))) hout (Nat.le_refl _) (by simp; omega))
          clear hown hown' hout hba
          rw [show f + (k - f + 1) = k + 1 by omega] at HR
          go_wp2
          go_roundw
          case rel => exact ⟨k + 1, k + 1, xs ++ [m], by omega, by omega, by go_num, by go_num, by simp; omega, HR, Lib.hid (by omega), HO', HB'⟩
          case measure => simp [intOf]; omega
    · obtain rfl : k = l.length := by omega
      have HR := Lib.hid (jr_end HJ.out (readJr_no (nl_end HNo.out)))
      go_wp2
      go_ret2
      refine ⟨_, _, rfl, ?_, ?_, HB.out⟩
      · rw [HR.out]
      · rw [HR.out]; exact HO.out
end
end Go.Proofs.YtipbanhelhidnaaGreatDoor
