/-
  Texts of walks and plain lemmas for this seat; no condition.
-/
import Derived.Test.YtjpndimhegfbnaaGreatDoorSKRead
import Derived.Test.YtjpndimhegfbnaaGreatDoorJoin
namespace Go.Proofs.YtjpndimhegfbnaaGreatDoor
open Go.RowKit

set_option maxRecDepth 100000 in
set_option maxHeartbeats 1600000 in
theorem great3_reads (p : PR) (m : Nat) (h : SmallR p m) : GreatR p 3 m := by
  intro w txt s n deep e r hT hl hd hp
  have HC := Lib.hid (h w txt s n deep e r hT hl hd hp)
  clear h hT hp
  go_enter Tryz.func116, Tryz.ntmps116
  go_wp2_with fail
  refine HC.out.mono ?_
  rintro e' w1 ⟨v, q, rfl, h1, h2, h3⟩
  have H := Lib.hid (And.intro h1 (And.intro h2 h3))
  clear h1 h2 h3
  go_wp2
  refine bodyPost_ret (v := .tuple #[v, .int .i64 q, .bool true]) (by simp [results, Tryz.results116, go_sem]) rfl ⟨v, q, rfl, H.out.1, H.out.2.1, H.out.2.2⟩

set_option maxRecDepth 100000 in
set_option maxHeartbeats 6400000 in
theorem great2_reads (part : PR) (m : Nat) (hsh : Short part) (hpart : GreatR part 3 m) : GreatR (chainP 59 19 part) 2 m := by
  intro w txt s n deep e r hT hl hd hp
  simp only [chainP, Option.bind_eq_some_iff] at hp
  obtain ⟨⟨e1, r1⟩, hp1, hp2⟩ := hp
  have hlen := hsh _ _ _ hp1
  have hTn := hT.2
  have HP := Lib.hid hpart
  have HS := Lib.hid hsh
  have HC := Lib.hid (hpart w txt s n deep e1 r1 hT hl hd hp1)
  have HL := Lib.hid (Exists.intro (p := fun q => loopP 59 19 part q e1 r1 = some (e, r)) r1.length hp2)
  clear hpart hsh hp1 hp2 hT
  go_enter Tryz.func116, Tryz.ntmps116
  go_wp2_with fail
  refine HC.out.mono ?_
  rintro e' w1 ⟨v1, n1, rfl, hT1, hb, hown⟩
  obtain ⟨a1, cap1, rfl, _⟩ := Own.open hown
  have HI := Lib.hid (And.intro hown (And.intro hb (And.intro hT1 HL.out)))
  have hl1 : e1.length + r1.length ≤ 199 := by omega
  clear hb hown hT1 HC HL
  go_wp2
  go_loopw [11, 12, 13] (fun v i f wr => ∃ (a : Option Addr) (cap q : Nat) (es : List Int) (s' : List UInt8), v = .slice a es.length cap ∧ i = .int .i64 q ∧ f = .bool true ∧ es.length + s'.length ≤ 199 ∧
      Hid (OwnI w.heap.size wr.heap.size 3 wr (.slice a es.length cap) es ∧ Below w.heap.size w wr ∧ Tail txt s' q ∧ ∃ x, loopP 59 19 part x es s' = some (e, r))) (fun v _ _ _ => 400 - slLen v)
  case atStart => exact ⟨a1, cap1, n1, e1, r1, rfl, rfl, rfl, hl1, HI⟩
  case round =>
    obtain ⟨a, cap, q, es, s', rfl, rfl, rfl, hl2, HR⟩ := hrel
    clear HI
    obtain ⟨x, hx⟩ := HR.out.2.2.2
    have hqT := HR.out.2.2.1.2
    cases s' with
    | nil =>
      have hst : es = e ∧ [] = r := by cases x <;> simpa [loopP] using hx
      have HST := Lib.hid hst
      have hqe : q = txt.length := by simpa using hqT
      have hqI : ¬ (q : Int) < txt.length := by omega
      clear hst hqT hx
      go_wp2
      go_region
      all_goals (
        go_wp2
        refine bodyPost_ret (v := .tuple #[.slice a es.length cap, .int .i64 q, .bool true]) (by simp [results, Tryz.results116, go_sem, hqe]) rfl ?_
        rw [← HST.out.1, ← HST.out.2]
        exact ⟨_, q, rfl, HR.out.2.2.1, HR.out.2.1.drew, HR.out.1⟩)
    | cons b t' =>
      obtain ⟨hlq, hbq⟩ := HR.out.2.2.1.get
      have hgq : ∀ hh : q < (ByteArray.mk txt.toArray).size, (ByteArray.mk txt.toArray)[q]'hh = b := fun _ => hbq
      have hqI : (q : Int) < txt.length := by omega
      rcases loop_open hx with ⟨hq, he, hr⟩ | ⟨hq, e2, r2, x', hq1, hq2⟩
      · have HE := Lib.hid (And.intro he hr)
        have hbI : ((b.toNat : Int) == 59) = false := hq
        clear hq he hr hx
        go_wp2
        go_region
        have hbn : Below wr.heap.size wr (wr.alloc (.cells #[.int .u8 43, .int .u8 59] 5)).drew := ((Below.refl _ _).alloc (Nat.le_refl _) _).drew
        have hsn : wr.heap.size ≤ (wr.alloc (.cells #[.int .u8 43, .int .u8 59] 5)).drew.heap.size := hbn.size
        have HF := Lib.hid (And.intro (HR.out.2.1.trans (hbn.mono HR.out.2.1.size)) ((HR.out.1.below hbn (Nat.le_refl _)).lower (Nat.le_refl _) hsn))
        clear hbn hsn
        go_wp2
        refine bodyPost_ret (v := .tuple #[.slice a es.length cap, .int .i64 q, .bool true]) (by simp [results, Tryz.results116, go_sem]) rfl ?_
        rw [HE.out.1, HE.out.2]
        exact ⟨_, q, rfl, HR.out.2.2.1, HF.out.1, HF.out.2⟩
      · have HQ1 := Lib.hid hq1
        have HQ2 := Lib.hid hq2
        have hbI : ((b.toNat : Int) == 59) = true := hq
        clear hq hq1 hq2 hx
        go_wp2
        go_region
        obtain ⟨w2, hw2⟩ : ∃ w2, w2 = (wr.alloc (.cells #[.int .u8 43, .int .u8 59] 5)).drew := ⟨_, rfl⟩
        have hbn : Below wr.heap.size wr w2 := by rw [hw2]; exact ((Below.refl _ _).alloc (Nat.le_refl _) _).drew
        have hsn := hbn.size
        have HF := Lib.hid (And.intro (HR.out.2.1.trans (hbn.mono HR.out.2.1.size)) ((HR.out.1.below hbn (Nat.le_refl _)).lower (Nat.le_refl _) hsn))
        have HTN := Lib.hid HR.out.2.2.1.next
        have HW2 := Lib.hid hw2
        have hsh2 := HS.out _ _ _ HQ1.out
        simp only [List.tail_cons] at hsh2
        have hl4 : es.length + 1 + t'.length ≤ 199 := by simp at hl2; omega
        clear hbn hw2 hqT
        go_wp2_with fail
        simp only [← HW2.out]
        refine (HP.out w2 txt t' (q + 1) deep e2 r2 HTN.out hl hd HQ1.out).mono ?_
        rintro e' w3 ⟨v3, n3, rfl, hT3, hb3, hown3⟩
        obtain ⟨a3, cap3, rfl, _⟩ := Own.open hown3
        have hs3 := hb3.size
        have HF3 := Lib.hid (And.intro (HF.out.1.trans (hb3.mono HF.out.1.size)) (HF.out.2.below hb3 (Nat.le_refl _)))
        have HO3 := Lib.hid hown3
        have HT3 := Lib.hid hT3
        clear hb3 hown3 hT3
        obtain ⟨w4, hw4⟩ : ∃ w4, w4 = w3.alloc (.cells #[.int .i64 20, .int .i64 19] 3) := ⟨_, rfl⟩
        have hb4 : Below w3.heap.size w3 w4 := by rw [hw4]; exact (Below.refl _ _).alloc (Nat.le_refl _) _
        have hs4 := hb4.size
        have HW4 := Lib.hid hw4
        have HA := Lib.hid (HF3.out.2.sl.below hb4 hs3)
        have HB := Lib.hid (HO3.out.sl.below hb4 (Nat.le_refl _))
        have HF4 := Lib.hid (HF3.out.1.trans (hb4.mono HF3.out.1.size))
        clear hw4 hb4
        go_wp2_with fail
        simp only [← HW4.out]
        refine (l2Join_any _ _ _ _ _ _ es e2 19 w4 HA.out HB.out (by omega) (by omega) (by omega)).mono ?_
        rintro e' w5 ⟨v5, rfl, hb5, hown5⟩
        obtain ⟨a5, cap5, rfl, _⟩ := Own.open hown5
        have hs1' := HF4.out.size
        have HI5 := Lib.hid (And.intro (hown5.lower hs1' (Nat.le_refl _)) (And.intro (HF4.out.trans (hb5.mono hs1')) (And.intro HT3.out (Exists.intro (p := fun z => loopP 59 19 part z (es ++ e2 ++ [19]) r2 = some (e, r)) x' HQ2.out))))
        clear hb5 hown5
        go_wp2
        go_roundw
        case rel => exact ⟨a5, cap5, n3, es ++ e2 ++ [19], r2, by first | rfl | (simp; done) | (simp; omega), rfl, rfl, by simp; omega, HI5⟩
        case measure => simp [slLen]; omega

set_option maxRecDepth 100000 in
set_option maxHeartbeats 6400000 in
theorem great1_reads (part : PR) (m : Nat) (hsh : Short part) (hpart : GreatR part 2 m) : GreatR (chainP 43 20 part) 1 m := by
  intro w txt s n deep e r hT hl hd hp
  simp only [chainP, Option.bind_eq_some_iff] at hp
  obtain ⟨⟨e1, r1⟩, hp1, hp2⟩ := hp
  have hlen := hsh _ _ _ hp1
  have hTn := hT.2
  have HP := Lib.hid hpart
  have HS := Lib.hid hsh
  have HC := Lib.hid (hpart w txt s n deep e1 r1 hT hl hd hp1)
  have HL := Lib.hid (Exists.intro (p := fun q => loopP 43 20 part q e1 r1 = some (e, r)) r1.length hp2)
  clear hpart hsh hp1 hp2 hT
  go_enter Tryz.func116, Tryz.ntmps116
  go_wp2_with fail
  refine HC.out.mono ?_
  rintro e' w1 ⟨v1, n1, rfl, hT1, hb, hown⟩
  obtain ⟨a1, cap1, rfl, _⟩ := Own.open hown
  have HI := Lib.hid (And.intro hown (And.intro hb (And.intro hT1 HL.out)))
  have hl1 : e1.length + r1.length ≤ 199 := by omega
  clear hb hown hT1 HC HL
  go_wp2
  go_loopw [11, 12, 13] (fun v i f wr => ∃ (a : Option Addr) (cap q : Nat) (es : List Int) (s' : List UInt8), v = .slice a es.length cap ∧ i = .int .i64 q ∧ f = .bool true ∧ es.length + s'.length ≤ 199 ∧
      Hid (OwnI w.heap.size wr.heap.size 3 wr (.slice a es.length cap) es ∧ Below w.heap.size w wr ∧ Tail txt s' q ∧ ∃ x, loopP 43 20 part x es s' = some (e, r))) (fun v _ _ _ => 400 - slLen v)
  case atStart => exact ⟨a1, cap1, n1, e1, r1, rfl, rfl, rfl, hl1, HI⟩
  case round =>
    obtain ⟨a, cap, q, es, s', rfl, rfl, rfl, hl2, HR⟩ := hrel
    clear HI
    obtain ⟨x, hx⟩ := HR.out.2.2.2
    have hqT := HR.out.2.2.1.2
    cases s' with
    | nil =>
      have hst : es = e ∧ [] = r := by cases x <;> simpa [loopP] using hx
      have HST := Lib.hid hst
      have hqe : q = txt.length := by simpa using hqT
      have hqI : ¬ (q : Int) < txt.length := by omega
      clear hst hqT hx
      go_wp2
      go_region
      all_goals (
        go_wp2
        refine bodyPost_ret (v := .tuple #[.slice a es.length cap, .int .i64 q, .bool true]) (by simp [results, Tryz.results116, go_sem, hqe]) rfl ?_
        rw [← HST.out.1, ← HST.out.2]
        exact ⟨_, q, rfl, HR.out.2.2.1, HR.out.2.1.drew, HR.out.1⟩)
    | cons b t' =>
      obtain ⟨hlq, hbq⟩ := HR.out.2.2.1.get
      have hgq : ∀ hh : q < (ByteArray.mk txt.toArray).size, (ByteArray.mk txt.toArray)[q]'hh = b := fun _ => hbq
      have hqI : (q : Int) < txt.length := by omega
      rcases loop_open hx with ⟨hq, he, hr⟩ | ⟨hq, e2, r2, x', hq1, hq2⟩
      · have HE := Lib.hid (And.intro he hr)
        have hbI : ((b.toNat : Int) == 43) = false := hq
        clear hq he hr hx
        go_wp2
        go_region
        have hbn : Below wr.heap.size wr (wr.alloc (.cells #[.int .u8 43, .int .u8 59] 5)).drew := ((Below.refl _ _).alloc (Nat.le_refl _) _).drew
        have hsn : wr.heap.size ≤ (wr.alloc (.cells #[.int .u8 43, .int .u8 59] 5)).drew.heap.size := hbn.size
        have HF := Lib.hid (And.intro (HR.out.2.1.trans (hbn.mono HR.out.2.1.size)) ((HR.out.1.below hbn (Nat.le_refl _)).lower (Nat.le_refl _) hsn))
        clear hbn hsn
        go_wp2
        refine bodyPost_ret (v := .tuple #[.slice a es.length cap, .int .i64 q, .bool true]) (by simp [results, Tryz.results116, go_sem]) rfl ?_
        rw [HE.out.1, HE.out.2]
        exact ⟨_, q, rfl, HR.out.2.2.1, HF.out.1, HF.out.2⟩
      · have HQ1 := Lib.hid hq1
        have HQ2 := Lib.hid hq2
        have hbI : ((b.toNat : Int) == 43) = true := hq
        clear hq hq1 hq2 hx
        go_wp2
        go_region
        obtain ⟨w2, hw2⟩ : ∃ w2, w2 = (wr.alloc (.cells #[.int .u8 43, .int .u8 59] 5)).drew := ⟨_, rfl⟩
        have hbn : Below wr.heap.size wr w2 := by rw [hw2]; exact ((Below.refl _ _).alloc (Nat.le_refl _) _).drew
        have hsn := hbn.size
        have HF := Lib.hid (And.intro (HR.out.2.1.trans (hbn.mono HR.out.2.1.size)) ((HR.out.1.below hbn (Nat.le_refl _)).lower (Nat.le_refl _) hsn))
        have HTN := Lib.hid HR.out.2.2.1.next
        have HW2 := Lib.hid hw2
        have hsh2 := HS.out _ _ _ HQ1.out
        simp only [List.tail_cons] at hsh2
        have hl4 : es.length + 1 + t'.length ≤ 199 := by simp at hl2; omega
        clear hbn hw2 hqT
        go_wp2_with fail
        simp only [← HW2.out]
        refine (HP.out w2 txt t' (q + 1) deep e2 r2 HTN.out hl hd HQ1.out).mono ?_
        rintro e' w3 ⟨v3, n3, rfl, hT3, hb3, hown3⟩
        obtain ⟨a3, cap3, rfl, _⟩ := Own.open hown3
        have hs3 := hb3.size
        have HF3 := Lib.hid (And.intro (HF.out.1.trans (hb3.mono HF.out.1.size)) (HF.out.2.below hb3 (Nat.le_refl _)))
        have HO3 := Lib.hid hown3
        have HT3 := Lib.hid hT3
        clear hb3 hown3 hT3
        obtain ⟨w4, hw4⟩ : ∃ w4, w4 = w3.alloc (.cells #[.int .i64 20, .int .i64 19] 3) := ⟨_, rfl⟩
        have hb4 : Below w3.heap.size w3 w4 := by rw [hw4]; exact (Below.refl _ _).alloc (Nat.le_refl _) _
        have hs4 := hb4.size
        have HW4 := Lib.hid hw4
        have HA := Lib.hid (HF3.out.2.sl.below hb4 hs3)
        have HB := Lib.hid (HO3.out.sl.below hb4 (Nat.le_refl _))
        have HF4 := Lib.hid (HF3.out.1.trans (hb4.mono HF3.out.1.size))
        clear hw4 hb4
        go_wp2_with fail
        simp only [← HW4.out]
        refine (l2Join_any _ _ _ _ _ _ es e2 20 w4 HA.out HB.out (by omega) (by omega) (by omega)).mono ?_
        rintro e' w5 ⟨v5, rfl, hb5, hown5⟩
        obtain ⟨a5, cap5, rfl, _⟩ := Own.open hown5
        have hs1' := HF4.out.size
        have HI5 := Lib.hid (And.intro (hown5.lower hs1' (Nat.le_refl _)) (And.intro (HF4.out.trans (hb5.mono hs1')) (And.intro HT3.out (Exists.intro (p := fun z => loopP 43 20 part z (es ++ e2 ++ [20]) r2 = some (e, r)) x' HQ2.out))))
        clear hb5 hown5
        go_wp2
        go_roundw
        case rel => exact ⟨a5, cap5, n3, es ++ e2 ++ [20], r2, by first | rfl | (simp; done) | (simp; omega), rfl, rfl, by simp; omega, HI5⟩
        case measure => simp [slLen]; omega
end Go.Proofs.YtjpndimhegfbnaaGreatDoor
