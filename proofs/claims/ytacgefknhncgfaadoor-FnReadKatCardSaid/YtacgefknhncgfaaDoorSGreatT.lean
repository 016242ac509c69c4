/-
  Texts of walks and plain lemmas for this seat; no condition.
-/
import Derived.Test.YtacgefknhncgfaaDoorGC
import Derived.Test.YtacgefknhncgfaaDoorGA
import Derived.Test.YtacgefknhncgfaaDoorParF
namespace Go.Proofs.YtacgefknhncgfaaDoor
open Go.RowKit
set_option linter.unusedVariables false

/-- What a part of the reference's reader hands back, at any text: a truth; if it is true the steps and where it stands. -/
def ReadU (p : PR) (txt s : List UInt8) (w : World) (e' : Ending) (w' : World) : Prop :=
  ∃ (v : Value) (n : Nat) (e0 : List Int) (ok : Bool), e' = .returned (.tuple #[v, .int .i64 ((n : Nat) : Int), .bool ok]) ∧ Below w.heap.size w w' ∧ OwnI w.heap.size w'.heap.size 3 w' v e0 ∧ e0.length ≤ s.length ∧
    (ok = true → ∃ r, p s = some (e0, r) ∧ Tail txt r n) ∧ (ok = false → p s = none)
def SmU (p : PR) (deep : Nat) : Prop := ∀ (w : World) (txt s : List UInt8) (n : Nat), Tail txt s n → txt.length ≤ 199 → Calls Tryd.prog 29 #[.string ⟨txt.toArray⟩, .int .i64 n, .int .i64 deep] w (ReadU p txt s w)
def GrU (p : PR) (k : Int) (deep : Nat) : Prop := ∀ (w : World) (txt s : List UInt8) (n : Nat), Tail txt s n → txt.length ≤ 199 → Calls Tryd.prog 17 #[.string ⟨txt.toArray⟩, .int .i64 n, .int .i64 k, .int .i64 deep] w (ReadU p txt s w)
def roundsLeft (v f : Value) : Nat := match f with | .bool true => 401 - slLen v | _ => 0

set_option maxRecDepth 100000 in
set_option maxHeartbeats 1600000 in
theorem great3_u (p : PR) (deep : Nat) (h : SmU p deep) : GrU p 3 deep := by
  intro w txt s n hT hl
  have HC := Lib.hid (h w txt s n hT hl)
  clear h hT
  go_enter Tryd.func17, Tryd.ntmps17
  go_wp2_with fail
  refine HC.out.mono ?_
  rintro e' w1 ⟨v, q, e0, ok, rfl, h⟩
  have H := Lib.hid h
  clear h
  go_wp2
  refine bodyPost_ret (v := .tuple #[v, .int .i64 q, .bool ok]) (by simp [results, Tryd.results17, go_sem]) rfl ⟨v, q, e0, ok, rfl, H.out⟩

set_option maxRecDepth 100000 in
set_option maxHeartbeats 6400000 in
theorem great2_u (part : PR) (deep : Nat) (hsh : Short part) (hpart : GrU part 3 deep) : GrU (chainP 59 19 part) 2 deep := by
  intro w txt s n hT hl
  have hTn := hT.2
  have HP := Lib.hid hpart
  have HS := Lib.hid hsh
  have HC := Lib.hid (hpart w txt s n hT hl)
  clear hpart hsh hT
  go_enter Tryd.func17, Tryd.ntmps17
  go_wp2_with fail
  refine HC.out.mono ?_
  rintro e' w1 ⟨v1, n1, e1, ok, rfl, hb, hown, hle, hy, hno⟩
  obtain ⟨a1, cap1, rfl, _⟩ := Own.open hown
  have hl1 : e1.length ≤ 199 := by omega
  have HI : Hid (OwnI w.heap.size w1.heap.size 3 w1 (.slice a1 e1.length cap1) e1 ∧ Below w.heap.size w w1 ∧ e1.length ≤ s.length ∧ (ok = true → ∃ (s' : List UInt8) (x : Nat), Tail txt s' n1 ∧ e1.length + s'.length ≤ s.length ∧ s'.length ≤ x ∧ chainP 59 19 part s = loopP 59 19 part x e1 s') ∧ (ok = false → chainP 59 19 part s = none)) := Lib.hid
    ⟨hown, hb, hle, fun h => by
      obtain ⟨r, h1, h2⟩ := hy h
      exact ⟨r, r.length, h2, HS.out _ _ _ h1, Nat.le_refl _, by simp [chainP, h1]⟩, fun h => by simp [chainP, hno h]⟩
  clear hb hown hle hy hno HC
  go_wp2
  go_loopw [11, 12, 13] (fun v i f wr => ∃ (a : Option Addr) (cap q : Nat) (es : List Int) (ok : Bool), v = .slice a es.length cap ∧ i = .int .i64 q ∧ f = .bool ok ∧ es.length ≤ 199 ∧
      Hid (OwnI w.heap.size wr.heap.size 3 wr (.slice a es.length cap) es ∧ Below w.heap.size w wr ∧ es.length ≤ s.length ∧ (ok = true → ∃ (s' : List UInt8) (x : Nat), Tail txt s' q ∧ es.length + s'.length ≤ s.length ∧ s'.length ≤ x ∧ chainP 59 19 part s = loopP 59 19 part x es s') ∧ (ok = false → chainP 59 19 part s = none))) (fun v _ f _ => roundsLeft v f)
  case atStart => exact ⟨a1, cap1, n1, e1, ok, rfl, rfl, rfl, hl1, HI⟩
  case round =>
    obtain ⟨a, cap, q, es, ok, rfl, rfl, rfl, hl2, HR⟩ := hrel
    clear HI
    cases ok with
    | false =>
      go_wp2
      go_region
      all_goals (
        go_wp2
        refine bodyPost_ret (v := .tuple #[.slice a es.length cap, .int .i64 q, .bool false]) (by simp [results, Tryd.results17, go_sem]) rfl ?_
        exact ⟨_, q, es, false, rfl, HR.out.2.1.drew, HR.out.1, HR.out.2.2.1, (by intro h; cases h), fun _ => HR.out.2.2.2.2 trivial⟩)
    | true =>
      obtain ⟨s', x, hT1, hls, hsx, hx⟩ := HR.out.2.2.2.1 rfl
      have hqT := hT1.2
      have HT1 := Lib.hid hT1
      cases s' with
      | nil =>
        have HF := Lib.hid (show chainP 59 19 part s = some (es, []) by rw [hx]; cases x <;> rfl)
        have hqe : q = txt.length := by simpa using hqT
        have hqI : ¬ (q : Int) < txt.length := by omega
        clear hqT hx hT1
        go_wp2
        go_region
        all_goals (
          go_wp2
          refine bodyPost_ret (v := .tuple #[.slice a es.length cap, .int .i64 q, .bool true]) (by simp [results, Tryd.results17, go_sem, hqe]) rfl ?_
          exact ⟨_, q, es, true, rfl, HR.out.2.1.drew, HR.out.1, HR.out.2.2.1, fun _ => ⟨[], HF.out, HT1.out⟩, (by intro h; cases h)⟩)
      | cons b t' =>
        obtain ⟨hlq, hbq⟩ := hT1.get
        have hgq : ∀ hh : q < (ByteArray.mk txt.toArray).size, (ByteArray.mk txt.toArray)[q]'hh = b := fun _ => hbq
        have hqI : (q : Int) < txt.length := by omega
        cases hq : isHead 59 (b :: t')
        · have HF := Lib.hid (show chainP 59 19 part s = some (es, b :: t') by
            rw [hx]
            cases x with
            | zero => simp at hsx
            | succ x =>
              simp only [isHead, beq_eq_false_iff_ne, ne_eq] at hq
              rw [loopP, if_neg (by omega)])
          have hbI : ((b.toNat : Int) == 59) = false := hq
          clear hq hx hT1
          go_wp2
          go_region
          have hbn : Below wr.heap.size wr (wr.alloc (.cells #[.int .u8 43, .int .u8 59] 5)).drew := ((Below.refl _ _).alloc (Nat.le_refl _) _).drew
          have hsn : wr.heap.size ≤ (wr.alloc (.cells #[.int .u8 43, .int .u8 59] 5)).drew.heap.size := hbn.size
          have HFF := Lib.hid (And.intro (HR.out.2.1.trans (hbn.mono HR.out.2.1.size)) ((HR.out.1.below hbn (Nat.le_refl _)).lower (Nat.le_refl _) hsn))
          clear hbn hsn
          go_wp2
          refine bodyPost_ret (v := .tuple #[.slice a es.length cap, .int .i64 q, .bool true]) (by simp [results, Tryd.results17, go_sem]) rfl ?_
          exact ⟨_, q, es, true, rfl, HFF.out.1, HFF.out.2, HR.out.2.2.1, fun _ => ⟨b :: t', HF.out, HT1.out⟩, (by intro h; cases h)⟩
        · obtain ⟨x, rfl⟩ : ∃ y, x = y + 1 := ⟨x - 1, by simp at hsx; omega⟩
          have HQ := Lib.hid (show chainP 59 19 part s = (part t').bind fun y => loopP 59 19 part x (es ++ y.1 ++ [19]) y.2 by
            rw [hx]
            simp only [isHead, beq_iff_eq] at hq
            rw [loopP, if_pos (by omega)])
          have hbI : ((b.toNat : Int) == 59) = true := hq
          clear hq hx
          go_wp2
          go_region
          obtain ⟨w2, hw2⟩ : ∃ w2, w2 = (wr.alloc (.cells #[.int .u8 43, .int .u8 59] 5)).drew := ⟨_, rfl⟩
          have hbn : Below wr.heap.size wr w2 := by rw [hw2]; exact ((Below.refl _ _).alloc (Nat.le_refl _) _).drew
          have hsn := hbn.size
          have HF := Lib.hid (And.intro (HR.out.2.1.trans (hbn.mono HR.out.2.1.size)) ((HR.out.1.below hbn (Nat.le_refl _)).lower (Nat.le_refl _) hsn))
          have HTN := Lib.hid hT1.next
          have HW2 := Lib.hid hw2
          have hls' : es.length + 1 + t'.length ≤ s.length := by simp at hls; omega
          have hsx' : t'.length ≤ x := by simp at hsx; omega
          clear hbn hw2 hqT hT1
          go_wp2_with fail
          simp only [← HW2.out]
          refine (HP.out w2 txt t' (q + 1) HTN.out hl).mono ?_
          rintro e' w3 ⟨v3, n3, e2, ok3, rfl, hb3, hown3, hle3, hy3, hno3⟩
          obtain ⟨a3, cap3, rfl, _⟩ := Own.open hown3
          have hs3 := hb3.size
          have HF3 := Lib.hid (And.intro (HF.out.1.trans (hb3.mono HF.out.1.size)) (HF.out.2.below hb3 (Nat.le_refl _)))
          have HO3 := Lib.hid hown3
          have HY3 := Lib.hid hy3
          have HN3 := Lib.hid hno3
          clear hb3 hown3 hy3 hno3
          obtain ⟨w4, hw4⟩ : ∃ w4, w4 = w3.alloc (.cells #[.int .i64 20, .int .i64 19] 3) := ⟨_, rfl⟩
          have hb4 : Below w3.heap.size w3 w4 := by rw [hw4]; exact (Below.refl _ _).alloc (Nat.le_refl _) _
          have hs4 := hb4.size
          have HW4 := Lib.hid hw4
          have HA := Lib.hid (HF3.out.2.sl.below hb4 hs3)
          have HB := Lib.hid (HO3.out.sl.below hb4 (Nat.le_refl _))
          have HF4 := Lib.hid (HF3.out.1.trans (hb4.mono HF3.out.1.size))
          clear hw4 hb4
          go_wp2_with fail
          simp only [← HW4.out]
          refine (l2Join_any _ _ _ _ _ _ es e2 19 w4 HA.out HB.out (by omega) (by omega) (by omega)).mono ?_
          rintro e' w5 ⟨v5, rfl, hb5, hown5⟩
          obtain ⟨a5, cap5, rfl, _⟩ := Own.open hown5
          have hs1' := HF4.out.size
          have hl6 : (es ++ e2 ++ [19]).length ≤ s.length := by simp; omega
          have HI5 := Lib.hid (show OwnI w.heap.size w5.heap.size 3 w5 (.slice a5 (es ++ e2 ++ [19]).length cap5) (es ++ e2 ++ [19]) ∧ Below w.heap.size w w5 ∧ (es ++ e2 ++ [19]).length ≤ s.length ∧ (ok3 = true → ∃ (s' : List UInt8) (y : Nat), Tail txt s' n3 ∧ (es ++ e2 ++ [19]).length + s'.length ≤ s.length ∧ s'.length ≤ y ∧ chainP 59 19 part s = loopP 59 19 part y (es ++ e2 ++ [19]) s') ∧ (ok3 = false → chainP 59 19 part s = none) from
            ⟨hown5.lower hs1' (Nat.le_refl _), HF4.out.trans (hb5.mono hs1'), hl6, fun h => by
              obtain ⟨r, h1, h2⟩ := HY3.out h
              have h3 := HS.out _ _ _ h1
              exact ⟨r, x, h2, by simp; omega, by omega, by rw [HQ.out, h1]; rfl⟩, fun h => by rw [HQ.out, HN3.out h]; rfl⟩)
          have hl7 : (es ++ e2 ++ [19]).length ≤ 199 := by omega
          have hl8 : es.length < (es ++ e2 ++ [19]).length := by rw [List.length_append, List.length_append]; simp only [List.length_singleton]; omega
          clear hb5 hown5
          go_wp2
          go_roundw
          case rel => exact ⟨a5, cap5, n3, es ++ e2 ++ [19], ok3, by first | rfl | (simp; done) | (simp; omega), rfl, rfl, hl7, HI5⟩
          case measure => cases ok3 <;> simp [roundsLeft, slLen] <;> omega

set_option maxRecDepth 100000 in
set_option maxHeartbeats 6400000 in
theorem great1_u (part : PR) (deep : Nat) (hsh : Short part) (hpart : GrU part 2 deep) : GrU (chainP 43 20 part) 1 deep := by
  intro w txt s n hT hl
  have hTn := hT.2
  have HP := Lib.hid hpart
  have HS := Lib.hid hsh
  have HC := Lib.hid (hpart w txt s n hT hl)
  clear hpart hsh hT
  go_enter Tryd.func17, Tryd.ntmps17
  go_wp2_with fail
  refine HC.out.mono ?_
  rintro e' w1 ⟨v1, n1, e1, ok, rfl, hb, hown, hle, hy, hno⟩
  obtain ⟨a1, cap1, rfl, _⟩ := Own.open hown
  have hl1 : e1.length ≤ 199 := by omega
  have HI : Hid (OwnI w.heap.size w1.heap.size 3 w1 (.slice a1 e1.length cap1) e1 ∧ Below w.heap.size w w1 ∧ e1.length ≤ s.length ∧ (ok = true → ∃ (s' : List UInt8) (x : Nat), Tail txt s' n1 ∧ e1.length + s'.length ≤ s.length ∧ s'.length ≤ x ∧ chainP 43 20 part s = loopP 43 20 part x e1 s') ∧ (ok = false → chainP 43 20 part s = none)) := Lib.hid
    ⟨hown, hb, hle, fun h => by
      obtain ⟨r, h1, h2⟩ := hy h
      exact ⟨r, r.length, h2, HS.out _ _ _ h1, Nat.le_refl _, by simp [chainP, h1]⟩, fun h => by simp [chainP, hno h]⟩
  clear hb hown hle hy hno HC
  go_wp2
  go_loopw [11, 12, 13] (fun v i f wr => ∃ (a : Option Addr) (cap q : Nat) (es : List Int) (ok : Bool), v = .slice a es.length cap ∧ i = .int .i64 q ∧ f = .bool ok ∧ es.length ≤ 199 ∧
      Hid (OwnI w.heap.size wr.heap.size 3 wr (.slice a es.length cap) es ∧ Below w.heap.size w wr ∧ es.length ≤ s.length ∧ (ok = true → ∃ (s' : List UInt8) (x : Nat), Tail txt s' q ∧ es.length + s'.length ≤ s.length ∧ s'.length ≤ x ∧ chainP 43 20 part s = loopP 43 20 part x es s') ∧ (ok = false → chainP 43 20 part s = none))) (fun v _ f _ => roundsLeft v f)
  case atStart => exact ⟨a1, cap1, n1, e1, ok, rfl, rfl, rfl, hl1, HI⟩
  case round =>
    obtain ⟨a, cap, q, es, ok, rfl, rfl, rfl, hl2, HR⟩ := hrel
    clear HI
    cases ok with
    | false =>
      go_wp2
      go_region
      all_goals (
        go_wp2
        refine bodyPost_ret (v := .tuple #[.slice a es.length cap, .int .i64 q, .bool false]) (by simp [results, Tryd.results17, go_sem]) rfl ?_
        exact ⟨_, q, es, false, rfl, HR.out.2.1.drew, HR.out.1, HR.out.2.2.1, (by intro h; cases h), fun _ => HR.out.2.2.2.2 trivial⟩)
    | true =>
      obtain ⟨s', x, hT1, hls, hsx, hx⟩ := HR.out.2.2.2.1 rfl
      have hqT := hT1.2
      have HT1 := Lib.hid hT1
      cases s' with
      | nil =>
        have HF := Lib.hid (show chainP 43 20 part s = some (es, []) by rw [hx]; cases x <;> rfl)
        have hqe : q = txt.length := by simpa using hqT
        have hqI : ¬ (q : Int) < txt.length := by omega
        clear hqT hx hT1
        go_wp2
        go_region
        all_goals (
          go_wp2
          refine bodyPost_ret (v := .tuple #[.slice a es.length cap, .int .i64 q, .bool true]) (by simp [results, Tryd.results17, go_sem, hqe]) rfl ?_
          exact ⟨_, q, es, true, rfl, HR.out.2.1.drew, HR.out.1, HR.out.2.2.1, fun _ => ⟨[], HF.out, HT1.out⟩, (by intro h; cases h)⟩)
      | cons b t' =>
        obtain ⟨hlq, hbq⟩ := hT1.get
        have hgq : ∀ hh : q < (ByteArray.mk txt.toArray).size, (ByteArray.mk txt.toArray)[q]'hh = b := fun _ => hbq
        have hqI : (q : Int) < txt.length := by omega
        cases hq : isHead 43 (b :: t')
        · have HF := Lib.hid (show chainP 43 20 part s = some (es, b :: t') by
            rw [hx]
            cases x with
            | zero => simp at hsx
            | succ x =>
              simp only [isHead, beq_eq_false_iff_ne, ne_eq] at hq
              rw [loopP, if_neg (by omega)])
          have hbI : ((b.toNat : Int) == 43) = false := hq
          clear hq hx hT1
          go_wp2
          go_region
          have hbn : Below wr.heap.size wr (wr.alloc (.cells #[.int .u8 43, .int .u8 59] 5)).drew := ((Below.refl _ _).alloc (Nat.le_refl _) _).drew
          have hsn : wr.heap.size ≤ (wr.alloc (.cells #[.int .u8 43, .int .u8 59] 5)).drew.heap.size := hbn.size
          have HFF := Lib.hid (And.intro (HR.out.2.1.trans (hbn.mono HR.out.2.1.size)) ((HR.out.1.below hbn (Nat.le_refl _)).lower (Nat.le_refl _) hsn))
          clear hbn hsn
          go_wp2
          refine bodyPost_ret (v := .tuple #[.slice a es.length cap, .int .i64 q, .bool true]) (by simp [results, Tryd.results17, go_sem]) rfl ?_
          exact ⟨_, q, es, true, rfl, HFF.out.1, HFF.out.2, HR.out.2.2.1, fun _ => ⟨b :: t', HF.out, HT1.out⟩, (by intro h; cases h)⟩
        · obtain ⟨x, rfl⟩ : ∃ y, x = y + 1 := ⟨x - 1, by simp at hsx; omega⟩
          have HQ := Lib.hid (show chainP 43 20 part s = (part t').bind fun y => loopP 43 20 part x (es ++ y.1 ++ [20]) y.2 by
            rw [hx]
            simp only [isHead, beq_iff_eq] at hq
            rw [loopP, if_pos (by omega)])
          have hbI : ((b.toNat : Int) == 43) = true := hq
          clear hq hx
          go_wp2
          go_region
          obtain ⟨w2, hw2⟩ : ∃ w2, w2 = (wr.alloc (.cells #[.int .u8 43, .int .u8 59] 5)).drew := ⟨_, rfl⟩
          have hbn : Below wr.heap.size wr w2 := by rw [hw2]; exact ((Below.refl _ _).alloc (Nat.le_refl _) _).drew
          have hsn := hbn.size
          have HF := Lib.hid (And.intro (HR.out.2.1.trans (hbn.mono HR.out.2.1.size)) ((HR.out.1.below hbn (Nat.le_refl _)).lower (Nat.le_refl _) hsn))
          have HTN := Lib.hid hT1.next
          have HW2 := Lib.hid hw2
          have hls' : es.length + 1 + t'.length ≤ s.length := by simp at hls; omega
          have hsx' : t'.length ≤ x := by simp at hsx; omega
          clear hbn hw2 hqT hT1
          go_wp2_with fail
          simp only [← HW2.out]
          refine (HP.out w2 txt t' (q + 1) HTN.out hl).mono ?_
          rintro e' w3 ⟨v3, n3, e2, ok3, rfl, hb3, hown3, hle3, hy3, hno3⟩
          obtain ⟨a3, cap3, rfl, _⟩ := Own.open hown3
          have hs3 := hb3.size
          have HF3 := Lib.hid (And.intro (HF.out.1.trans (hb3.mono HF.out.1.size)) (HF.out.2.below hb3 (Nat.le_refl _)))
          have HO3 := Lib.hid hown3
          have HY3 := Lib.hid hy3
          have HN3 := Lib.hid hno3
          clear hb3 hown3 hy3 hno3
          obtain ⟨w4, hw4⟩ : ∃ w4, w4 = w3.alloc (.cells #[.int .i64 20, .int .i64 19] 3) := ⟨_, rfl⟩
          have hb4 : Below w3.heap.size w3 w4 := by rw [hw4]; exact (Below.refl _ _).alloc (Nat.le_refl _) _
          have hs4 := hb4.size
          have HW4 := Lib.hid hw4
          have HA := Lib.hid (HF3.out.2.sl.below hb4 hs3)
          have HB := Lib.hid (HO3.out.sl.below hb4 (Nat.le_refl _))
          have HF4 := Lib.hid (HF3.out.1.trans (hb4.mono HF3.out.1.size))
          clear hw4 hb4
          go_wp2_with fail
          simp only [← HW4.out]
          refine (l2Join_any _ _ _ _ _ _ es e2 20 w4 HA.out HB.out (by omega) (by omega) (by omega)).mono ?_
          rintro e' w5 ⟨v5, rfl, hb5, hown5⟩
          obtain ⟨a5, cap5, rfl, _⟩ := Own.open hown5
          have hs1' := HF4.out.size
          have hl6 : (es ++ e2 ++ [20]).length ≤ s.length := by simp; omega
          have HI5 := Lib.hid (show OwnI w.heap.size w5.heap.size 3 w5 (.slice a5 (es ++ e2 ++ [20]).length cap5) (es ++ e2 ++ [20]) ∧ Below w.heap.size w w5 ∧ (es ++ e2 ++ [20]).length ≤ s.length ∧ (ok3 = true → ∃ (s' : List UInt8) (y : Nat), Tail txt s' n3 ∧ (es ++ e2 ++ [20]).length + s'.length ≤ s.length ∧ s'.length ≤ y ∧ chainP 43 20 part s = loopP 43 20 part y (es ++ e2 ++ [20]) s') ∧ (ok3 = false → chainP 43 20 part s = none) from
            ⟨hown5.lower hs1' (Nat.le_refl _), HF4.out.trans (hb5.mono hs1'), hl6, fun h => by
              obtain ⟨r, h1, h2⟩ := HY3.out h
              have h3 := HS.out _ _ _ h1
              exact ⟨r, x, h2, by simp; omega, by omega, by rw [HQ.out, h1]; rfl⟩, fun h => by rw [HQ.out, HN3.out h]; rfl⟩)
          have hl7 : (es ++ e2 ++ [20]).length ≤ 199 := by omega
          have hl8 : es.length < (es ++ e2 ++ [20]).length := by rw [List.length_append, List.length_append]; simp only [List.length_singleton]; omega
          clear hb5 hown5
          go_wp2
          go_roundw
          case rel => exact ⟨a5, cap5, n3, es ++ e2 ++ [20], ok3, by first | rfl | (simp; done) | (simp; omega), rfl, rfl, hl7, HI5⟩
          case measure => cases ok3 <;> simp [roundsLeft, slLen] <;> omega
end Go.Proofs.YtacgefknhncgfaaDoor
