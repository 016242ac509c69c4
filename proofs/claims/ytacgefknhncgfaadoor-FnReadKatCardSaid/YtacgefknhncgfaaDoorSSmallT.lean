/-
  Texts of walks and plain lemmas for this seat; no condition.
-/
import Derived.Test.YtacgefknhncgfaaDoorSGreatT
import Derived.Test.YtacgefknhncgfaaDoorGC
import Derived.Test.YtacgefknhncgfaaDoorKTot3
namespace Go.Proofs.YtacgefknhncgfaaDoor
open Go.RowKit
set_option linter.unusedVariables false

theorem testT_no40 {t : Nat} (ht : t < 16) {c : UInt8} {x : List UInt8} (h : testT t = c :: x) : c.toNat ≠ 40 := by
  have := (testT_forms t ht).2.2.2.2.2.2.2
  rw [h] at this
  intro hc
  apply this
  rw [List.head?_cons]
  congr 1
  exact UInt8.toNat_inj.1 hc
/-- The first beginning that is a test is the leaf. -/
theorem leaf_first {s : List UInt8} {k t : Nat} (h : readT (s.take k) = some t) : leafF s = some ([((t : Nat) : Int)], s.drop k) := by
  obtain ⟨ht, h2⟩ := (readT_iff _ _).1 h
  have := leafF_test t ht (s.drop k)
  rwa [h2, List.take_append_drop] at this
theorem leaf_none {c : UInt8} {t : List UInt8} (hl : ¬ (97 ≤ c.toNat ∧ c.toNat ≤ 99)) (h : ∀ j, 1 ≤ j → j ≤ 6 → j ≤ (c :: t).length → readT ((c :: t).take j) = none) : leafF (c :: t) = none := by
  cases hf : leafF (c :: t) with
  | none => rfl
  | some x =>
    exfalso
    obtain ⟨e, r⟩ := x
    rcases leafF_some hf with ⟨c', t', e1, h1, h2, _⟩ | ⟨k, hk, e1, _⟩
    · injection e1 with e1 _
      subst e1
      exact hl ⟨h1, h2⟩
    · obtain ⟨g1, g2, _⟩ := testT_forms k hk
      have hpos : 1 ≤ (testT k).length := by
        cases hx : testT k with
        | nil => exact absurd hx g2
        | cons => simp
      have := h (testT k).length hpos (by omega) (by rw [e1, List.length_append]; omega)
      rw [e1, List.take_left] at this
      rw [(readT_iff (testT k) k).2 ⟨hk, rfl⟩] at this
      cases this
theorem leaf_br (t : List UInt8) {c : UInt8} (hc : c.toNat = 40) : leafF (c :: t) = none := leaf_none (by omega) fun j h1 _ _ => by
  cases hr : readT ((c :: t).take j) with
  | none => rfl
  | some k =>
    obtain ⟨hk, h2⟩ := (readT_iff _ _).1 hr
    obtain ⟨j, rfl⟩ : ∃ i, j = i + 1 := ⟨j - 1, by omega⟩
    rw [List.take_succ_cons] at h2
    exact absurd hc (testT_no40 hk h2)
theorem ext_sub (txt s : List UInt8) (n k : Nat) (h : Tail txt s n) : ByteArray.extract ⟨txt.toArray⟩ n (n + k) = ⟨(s.take k).toArray⟩ := by
  apply ByteArray.ext
  simp [ByteArray.data_extract]
  rw [h.1]
theorem Tail.skip {txt s : List UInt8} {n : Nat} (h : Tail txt s n) (k : Nat) (hk : k ≤ s.length) : Tail txt (s.drop k) (n + k) := by
  obtain ⟨h1, h2⟩ := h
  refine ⟨by rw [h1, List.drop_drop], by rw [List.length_drop]; omega⟩

set_option maxRecDepth 100000 in
set_option maxHeartbeats 12800000 in
theorem small_u (sum : PR) (deep : Nat) (hsh : Short sum) (hd : deep ≤ 99) (hg : deep < 99 → GrU sum 1 (deep + 1)) (hz : ¬ deep < 99 → ∀ s, sum s = none) : SmU (starredP (singleF sum)) deep := by
  intro w txt s n hT hl
  have hTn := hT.2
  obtain ⟨wa, hwa⟩ : ∃ wa, wa = w.alloc (.cells #[] 3) := ⟨_, rfl⟩
  have HBA : Hid (Below w.heap.size w wa) := by rw [hwa]; exact Lib.hid ((Below.refl _ _).alloc (Nat.le_refl _) _)
  have hsa : wa.heap.size = w.heap.size + 1 := by rw [hwa]; simp
  have HOA : Hid (OwnI w.heap.size wa.heap.size 3 wa (.slice (some ⟨w.heap.size, 0, none⟩) 0 0) []) := by rw [hwa]; exact Lib.hid (Own.wide (Own.lit 1 3 w (ints []) 0 (by omega) rfl) (by simp))
  have HWA := Lib.hid hwa
  clear hwa
  cases s with
  | nil =>
    have HP := Lib.hid (show starredP (singleF sum) [] = none from rfl)
    have hn : n = txt.length := by simpa using hTn
    have h1 : ¬ (n : Int) < txt.length := by omega
    have h2 : ¬ (n : Int) + 1 ≤ txt.length := by omega
    clear hT hg hz hn
    go_enter Tryd.func29, Tryd.ntmps29
    go_wp2
    simp only [← HWA.out]
    go_loopw [9, 10, 11, 15] (fun o tt f en wr => o = .slice (some ⟨w.heap.size, 0, none⟩) 0 0 ∧ tt = .int .i64 (n : Int) ∧ f = .bool false ∧ en = .int .i64 ((n : Int) + 1) ∧ wa = wr) (fun _ _ _ _ _ => 0)
    case atStart => exact ⟨rfl, rfl, rfl, rfl, rfl⟩
    case round =>
      obtain ⟨rfl, rfl, rfl, rfl, rfl⟩ := hrel
      go_wp2
      go_loopw [9, 10] (fun v i wr => v = .slice (some ⟨w.heap.size, 0, none⟩) 0 0 ∧ i = .int .i64 (n : Int) ∧ wa = wr) (fun _ _ _ => 0)
      case atStart => exact ⟨rfl, rfl, rfl⟩
      case round =>
        obtain ⟨rfl, rfl, rfl⟩ := hrel
        go_wp2
        refine bodyPost_ret (v := .tuple #[.slice (some ⟨w.heap.size, 0, none⟩) 0 0, .int .i64 n, .bool false]) (by simp [results, Tryd.results29, go_sem]) rfl ?_
        exact ⟨_, n, [], false, rfl, HBA.out, HOA.out, Nat.zero_le _, (by intro h; cases h), fun _ => HP.out⟩
  | cons c t =>
    obtain ⟨hlt, hc0⟩ := hT.get
    have HTN := Lib.hid hT.next
    have HT := Lib.hid hT
    have hget : ∀ hh : n < (ByteArray.mk txt.toArray).size, (ByteArray.mk txt.toArray)[n]'hh = c := fun _ => hc0
    have hlt2 : (n : Int) < txt.length := by omega
    have hwrapn : (n : Int) + 1 ≤ txt.length := by omega
    have hsl : (c :: t).length ≤ 199 := by omega
    clear hT
    by_cases hbr : c.toNat = 40 ∧ deep < 99
    · obtain ⟨hc, hdp⟩ := hbr
      have HG := Lib.hid (hg hdp)
      have HSF := Lib.hid (show singleF sum (c :: t) = match sum t with
        | some (e, d :: r2) => if d.toNat = 41 then some (e, r2) else none
        | _ => none by
        simp only [singleF]
        rw [if_pos hc]
        cases sum t with
        | none => rfl
        | some x =>
          obtain ⟨e, r⟩ := x
          cases r <;> rfl)
      have HSH := Lib.hid hsh
      have hcI : ((c.toNat : Int) == 40) = true := by simp; omega
      have hcI2 : ¬ (97 : Int) ≤ c.toNat := by omega
      have hdd : (deep : Int) < 99 := by omega
      clear hg hz hc hsh
      go_enter Tryd.func29, Tryd.ntmps29
      go_wp2_with fail
      simp only [← HWA.out]
      refine (HG.out wa txt t (n + 1) HTN.out hl).mono ?_
      rintro e' w2 ⟨v2, n2, e1, ok, rfl, hb, hown, hle, hy, hno⟩
      obtain ⟨a2, cap2, rfl, _⟩ := Own.open hown
      have hs2 := hb.size
      have HO := Lib.hid (hown.lower (by omega : w.heap.size ≤ wa.heap.size) (Nat.le_refl _))
      have HB := Lib.hid (HBA.out.trans (hb.mono (by omega)))
      have HOE := Lib.hid ((HOA.out.below hb (Nat.le_refl _)).wide2' hs2)
      clear hb hown
      cases ok with
      | false =>
        have HP := Lib.hid (show starredP (singleF sum) (c :: t) = none by simp [starredP, HSF.out, hno rfl])
        clear hy hno
        go_wp2
        refine bodyPost_ret (v := .tuple #[.slice (some ⟨w.heap.size, 0, none⟩) 0 0, .int .i64 n, .bool false]) (by simp [results, Tryd.results29, go_sem]) rfl ?_
        exact ⟨_, n, [], false, rfl, HB.out, HOE.out, Nat.zero_le _, (by intro h; cases h), fun _ => HP.out⟩
      | true =>
        obtain ⟨r, hs, hT2⟩ := hy rfl
        have hlr := HSH.out _ _ _ hs
        have hT2n := hT2.2
        clear hy hno
        cases r with
        | nil =>
          have HP := Lib.hid (show starredP (singleF sum) (c :: t) = none by simp [starredP, HSF.out, hs])
          have hge : (txt.length : Int) ≤ (n2 : Int) := by simp at hT2n; omega
          clear hs hT2 hT2n
          go_wp2
          refine bodyPost_ret (v := .tuple #[.slice (some ⟨w.heap.size, 0, none⟩) 0 0, .int .i64 n, .bool false]) (by simp [results, Tryd.results29, go_sem]) rfl ?_
          exact ⟨_, n, [], false, rfl, HB.out, HOE.out, Nat.zero_le _, (by intro h; cases h), fun _ => HP.out⟩
        | cons d r1 =>
          obtain ⟨hlt3, hd0⟩ := hT2.get
          have hget2 : ∀ hh : n2 < (ByteArray.mk txt.toArray).size, (ByteArray.mk txt.toArray)[n2]'hh = d := fun _ => hd0
          have hlt4 : (n2 : Int) < txt.length := by omega
          have hlt5 : ¬ (txt.length : Int) ≤ (n2 : Int) := by omega
          by_cases h41 : d.toNat = 41
          · have hdI : ((d.toNat : Int) != 41) = false := by simp; omega
            have HI := Lib.hid (And.intro HO.out (And.intro HB.out (And.intro hT2.next (show starredP (singleF sum) (c :: t) = some (starP e1 r1) by simp [starredP, HSF.out, hs, h41]))))
            have hlen1 : e1.length + r1.length ≤ (c :: t).length := by simp at hlr ⊢; omega
            clear hs hT2 hT2n h41 hd0 hlr
            go_wp2
            go_loopw [9, 10, 11, 15] (fun o tt f en wr => o = .slice a2 e1.length cap2 ∧ tt = .int .i64 ((n2 : Int) + 1) ∧ f = .bool true ∧ en = .int .i64 ((n : Int) + 1) ∧ wr = w2) (fun _ _ _ _ _ => 0)
            case atStart => exact ⟨rfl, rfl, rfl, rfl, rfl⟩
            case round =>
              obtain ⟨rfl, rfl, rfl, rfl, rfl⟩ := hrel
              go_wp2
              go_loopw [9, 10] (fun v i wr => ∃ (a : Option Addr) (cap q : Nat) (es : List Int) (s' : List UInt8), v = .slice a es.length cap ∧ i = .int .i64 q ∧ es.length + s'.length ≤ (c :: t).length ∧
                  Hid (OwnI w.heap.size wr.heap.size 3 wr (.slice a es.length cap) es ∧ Below w.heap.size w wr ∧ Tail txt s' q ∧ starredP (singleF sum) (c :: t) = some (starP es s'))) (fun v _ _ => 400 - slLen v)
              case atStart => exact ⟨a2, cap2, n2 + 1, e1, r1, by first | rfl | simp, by go_num, hlen1, HI⟩
              case round =>
                obtain ⟨a, cap, q, es, s', rfl, rfl, hl2, HR⟩ := hrel
                have hqT := HR.out.2.2.1.2
                cases s' with
                | nil =>
                  have HF := Lib.hid (show starredP (singleF sum) (c :: t) = some (es, []) from HR.out.2.2.2)
                  have hqe : q = txt.length := by simpa using hqT
                  have hqI : ¬ (q : Int) < txt.length := by omega
                  clear hqT
                  go_wp2
                  refine bodyPost_ret (v := .tuple #[.slice a es.length cap, .int .i64 q, .bool true]) (by simp [results, Tryd.results29, go_sem, hqe]) rfl ?_
                  exact ⟨_, q, es, true, rfl, HR.out.2.1, HR.out.1, by omega, fun _ => ⟨[], HF.out, HR.out.2.2.1⟩, by intro h; cases h⟩
                | cons b t' =>
                  obtain ⟨hlq, hbq⟩ := HR.out.2.2.1.get
                  have hgq : ∀ hh : q < (ByteArray.mk txt.toArray).size, (ByteArray.mk txt.toArray)[q]'hh = b := fun _ => hbq
                  have hqI : (q : Int) < txt.length := by omega
                  by_cases hb42 : b.toNat = 42
                  · have HST := Lib.hid (show starredP (singleF sum) (c :: t) = some (starP (es ++ [21]) t') by rw [HR.out.2.2.2, starP, if_pos hb42])
                    have hbI : ((b.toNat : Int) == 42) = true := by simp; omega
                    have HX := Lib.hid (HR.out.1.sl)
                    have hwsz := HR.out.2.1.size
                    have H0 : Hid (Own 1 wr.heap.size (wr.heap.size + 1) 3 (wr.alloc (.cells (ints []).toArray 3)) (.slice (some ⟨wr.heap.size, 0, none⟩) 0 0) 0 (ints [])) := Lib.hid (Own.lit 1 3 wr (ints []) 0 (by omega) rfl)
                    obtain ⟨w0, hw0⟩ : ∃ w0, w0 = wr.alloc (.cells (ints []).toArray 3) := ⟨_, rfl⟩
                    have hb0 : Below wr.heap.size wr w0 := by rw [hw0]; exact (Below.refl _ _).alloc (Nat.le_refl _) _
                    have hs0 : w0.heap.size = wr.heap.size + 1 := by rw [hw0]; simp
                    rw [← hw0] at H0
                    have HW0 := Lib.hid hw0
                    have KX := Lib.hid (HX.out.below hb0 (Nat.le_refl _))
                    have HB0 := Lib.hid (HR.out.2.1.trans (hb0.mono hwsz))
                    have HT2 := Lib.hid HR.out.2.2.1.next
                    have hl3 : es.length ≤ 199 := by omega
                    have hl4 : es.length + 1 + t'.length ≤ (c :: t).length := by simp only [List.length_cons] at hl2 ⊢; omega
                    clear hw0 hb0 hb42 hqT HX
                    go_wp2_with (at_builtin; rw [show wr.alloc (.cells #[] 3) = w0 from HW0.out.symm]; refine wpList_app_sl rfl _ _ 24 rfl 3 (.int .i64 0) 1 8 Tryd.underlying24 info_int rfl (by decide) (by decide) rfl H0.out rfl KX.out (ints_one _) ?c1 ?c2 ?_)
                    case c1 => omega
                    case c2 => omega
                    intro v1 w1 ho1 _ hout1 _
                    have O1 := Lib.hid ho1
                    have hs1 := hout1.size
                    have HB1 := Lib.hid (Below.outside HB0.out hout1 hwsz (by omega))
                    clear ho1 hout1 KX H0 HB0
                    go_wp2_with (at_builtin; refine wpList_app_lit w1 rfl _ _ 24 rfl 3 (.int .i64 0) 1 8 Tryd.underlying24 info_int rfl (by decide) (by decide) rfl O1.out 1 (ints [21]) rfl rfl (ints_one _) rfl ?c1 ?c2 ?_)
                    case c1 => omega
                    case c2 => omega
                    intro v2 w2 ho2 hout2 _
                    obtain ⟨a', cap', rfl, _⟩ := Own.open ho2
                    have H3 := Lib.hid (And.intro ho2 (Below.outside HB1.out hout2 hwsz (by omega)))
                    have hs2 := hout2.size
                    clear ho2 hout2 O1 HB1
                    go_wp2
                    go_roundw
                    case rel =>
                      refine ⟨a', cap', q + 1, es ++ [21], t', by first | (simp; done) | (simp; omega), by go_num, by simp only [List.length_append, List.length_cons, List.length_nil] at hl4 ⊢; omega, Lib.hid ⟨?_, H3.out.2, HT2.out, HST.out⟩⟩
                      have h := Own.wide2 H3.out.1 hwsz (Nat.le_refl _)
                      have e1 : (es ++ [21]).length = es.length + 1 := by simp
                      have e2 : ints (es ++ [21]) = ints [] ++ (ints es ++ ints [21]) := by simp [ints]
                      unfold OwnI
                      rw [e1, e2]
                      exact h
                    case measure => simp [slLen]; omega
                  · have HF := Lib.hid (show starredP (singleF sum) (c :: t) = some (es, b :: t') by rw [HR.out.2.2.2, starP, if_neg hb42])
                    have hbI : ((b.toNat : Int) == 42) = false := by simp; omega
                    go_wp2
                    refine bodyPost_ret (v := .tuple #[.slice a es.length cap, .int .i64 q, .bool true]) (by simp [results, Tryd.results29, go_sem]) rfl ?_
                    exact ⟨_, q, es, true, rfl, HR.out.2.1, HR.out.1, by omega, fun _ => ⟨b :: t', HF.out, HR.out.2.2.1⟩, by intro h; cases h⟩
          · have hdI : ((d.toNat : Int) != 41) = true := by simp; omega
            have HP := Lib.hid (show starredP (singleF sum) (c :: t) = none by simp [starredP, HSF.out, hs, h41])
            clear hs hT2 hT2n h41 hd0
            go_wp2
            refine bodyPost_ret (v := .tuple #[.slice (some ⟨w.heap.size, 0, none⟩) 0 0, .int .i64 n, .bool false]) (by simp [results, Tryd.results29, go_sem]) rfl ?_
            exact ⟨_, n, [], false, rfl, HB.out, HOE.out, Nat.zero_le _, (by intro h; cases h), fun _ => HP.out⟩
    · have HSF := Lib.hid (show singleF sum (c :: t) = leafF (c :: t) by
        simp only [singleF]
        by_cases hc : c.toNat = 40
        · rw [if_pos hc, hz (fun h => hbr ⟨hc, h⟩), leaf_br t hc]
        · rw [if_neg hc])
      have hcI : ((c.toNat : Int) == 40) = false ∨ (((c.toNat : Int) == 40) = true ∧ ¬ (deep : Int) < 99) := by
        by_cases hc : c.toNat = 40
        · exact .inr ⟨by simp; omega, fun h => hbr ⟨hc, by omega⟩⟩
        · exact .inl (by simp; omega)
      clear hg hz hbr hsh
      by_cases hlet : 97 ≤ c.toNat ∧ c.toNat ≤ 99
      · obtain ⟨h97, h99⟩ := hlet
        have i97 : (97 : Int) ≤ c.toNat := by omega
        have i99 : (c.toNat : Int) ≤ 99 := by omega
        have hcJ : ((c.toNat : Int) == 40) = false := by simp; omega
        have hlf : leafF (c :: t) = some ([16 + ((c.toNat : Int) - 97)], t) := by
          have := leafF_act c.toNat h97 h99 t
          rwa [show UInt8.ofNat c.toNat = c from by simp] at this
        have hown := one_own (16 + ((c.toNat : Int) - 97)) wa
        obtain ⟨wb, hwb⟩ : ∃ wb, wb = wa.alloc (.cells #[.int .i64 (16 + ((c.toNat : Int) - 97))] 3) := ⟨_, rfl⟩
        rw [← hwb, hsa] at hown
        have hbb : Below wa.heap.size wa wb := by rw [hwb]; exact (Below.refl _ _).alloc (Nat.le_refl _) _
        have HI := Lib.hid (And.intro (hown.lower (by omega : w.heap.size ≤ w.heap.size + 1) (Nat.le_refl _)) (And.intro (HBA.out.trans (hbb.mono (by omega))) (And.intro HTN.out (show starredP (singleF sum) (c :: t) = some (starP [16 + ((c.toNat : Int) - 97)] t) by simp [starredP, HSF.out, hlf]))))
        have hlen1 : [16 + ((c.toNat : Int) - 97)].length + t.length ≤ (c :: t).length := by simp; omega
        have HWB := Lib.hid hwb
        clear hown hbb hwb hlf hcI
        go_enter Tryd.func29, Tryd.ntmps29
        go_wp2
        simp only [← HWA.out]
        simp only [← HWB.out]
        go_loopw [9, 10, 11, 15] (fun o tt f en wr => o = .slice (some ⟨w.heap.size + 1, 0, none⟩) 1 1 ∧ tt = .int .i64 ((n : Int) + 1) ∧ f = .bool true ∧ en = .int .i64 ((n : Int) + 1) ∧ wr = wb) (fun _ _ _ _ _ => 0)
        case atStart => exact ⟨rfl, rfl, rfl, rfl, rfl⟩
        case round =>
          obtain ⟨rfl, rfl, rfl, rfl, rfl⟩ := hrel
          go_wp2
          go_loopw [9, 10] (fun v i wr => ∃ (a : Option Addr) (cap q : Nat) (es : List Int) (s' : List UInt8), v = .slice a es.length cap ∧ i = .int .i64 q ∧ es.length + s'.length ≤ (c :: t).length ∧
              Hid (OwnI w.heap.size wr.heap.size 3 wr (.slice a es.length cap) es ∧ Below w.heap.size w wr ∧ Tail txt s' q ∧ starredP (singleF sum) (c :: t) = some (starP es s'))) (fun v _ _ => 400 - slLen v)
          case atStart => exact ⟨some ⟨w.heap.size + 1, 0, none⟩, 1, n + 1, [16 + ((c.toNat : Int) - 97)], t, by first | rfl | simp, by go_num, hlen1, HI⟩
          case round =>
            obtain ⟨a, cap, q, es, s', rfl, rfl, hl2, HR⟩ := hrel
            have hqT := HR.out.2.2.1.2
            cases s' with
            | nil =>
              have HF := Lib.hid (show starredP (singleF sum) (c :: t) = some (es, []) from HR.out.2.2.2)
              have hqe : q = txt.length := by simpa using hqT
              have hqI : ¬ (q : Int) < txt.length := by omega
              clear hqT
              go_wp2
              refine bodyPost_ret (v := .tuple #[.slice a es.length cap, .int .i64 q, .bool true]) (by simp [results, Tryd.results29, go_sem, hqe]) rfl ?_
              exact ⟨_, q, es, true, rfl, HR.out.2.1, HR.out.1, by omega, fun _ => ⟨[], HF.out, HR.out.2.2.1⟩, by intro h; cases h⟩
            | cons b t' =>
              obtain ⟨hlq, hbq⟩ := HR.out.2.2.1.get
              have hgq : ∀ hh : q < (ByteArray.mk txt.toArray).size, (ByteArray.mk txt.toArray)[q]'hh = b := fun _ => hbq
              have hqI : (q : Int) < txt.length := by omega
              by_cases hb42 : b.toNat = 42
              · have HST := Lib.hid (show starredP (singleF sum) (c :: t) = some (starP (es ++ [21]) t') by rw [HR.out.2.2.2, starP, if_pos hb42])
                have hbI : ((b.toNat : Int) == 42) = true := by simp; omega
                have HX := Lib.hid (HR.out.1.sl)
                have hwsz := HR.out.2.1.size
                have H0 : Hid (Own 1 wr.heap.size (wr.heap.size + 1) 3 (wr.alloc (.cells (ints []).toArray 3)) (.slice (some ⟨wr.heap.size, 0, none⟩) 0 0) 0 (ints [])) := Lib.hid (Own.lit 1 3 wr (ints []) 0 (by omega) rfl)
                obtain ⟨w0, hw0⟩ : ∃ w0, w0 = wr.alloc (.cells (ints []).toArray 3) := ⟨_, rfl⟩
                have hb0 : Below wr.heap.size wr w0 := by rw [hw0]; exact (Below.refl _ _).alloc (Nat.le_refl _) _
                have hs0 : w0.heap.size = wr.heap.size + 1 := by rw [hw0]; simp
                rw [← hw0] at H0
                have HW0 := Lib.hid hw0
                have KX := Lib.hid (HX.out.below hb0 (Nat.le_refl _))
                have HB0 := Lib.hid (HR.out.2.1.trans (hb0.mono hwsz))
                have HT2 := Lib.hid HR.out.2.2.1.next
                have hl3 : es.length ≤ 199 := by omega
                have hl4 : es.length + 1 + t'.length ≤ (c :: t).length := by simp only [List.length_cons] at hl2 ⊢; omega
                clear hw0 hb0 hb42 hqT HX
                go_wp2_with (at_builtin; rw [show wr.alloc (.cells #[] 3) = w0 from HW0.out.symm]; refine wpList_app_sl rfl _ _ 24 rfl 3 (.int .i64 0) 1 8 Tryd.underlying24 info_int rfl (by decide) (by decide) rfl H0.out rfl KX.out (ints_one _) ?c1 ?c2 ?_)
                case c1 => omega
                case c2 => omega
                intro v1 w1 ho1 _ hout1 _
                have O1 := Lib.hid ho1
                have hs1 := hout1.size
                have HB1 := Lib.hid (Below.outside HB0.out hout1 hwsz (by omega))
                clear ho1 hout1 KX H0 HB0
                go_wp2_with (at_builtin; refine wpList_app_lit w1 rfl _ _ 24 rfl 3 (.int .i64 0) 1 8 Tryd.underlying24 info_int rfl (by decide) (by decide) rfl O1.out 1 (ints [21]) rfl rfl (ints_one _) rfl ?c1 ?c2 ?_)
                case c1 => omega
                case c2 => omega
                intro v2 w2 ho2 hout2 _
                obtain ⟨a', cap', rfl, _⟩ := Own.open ho2
                have H3 := Lib.hid (And.intro ho2 (Below.outside HB1.out hout2 hwsz (by omega)))
                have hs2 := hout2.size
                clear ho2 hout2 O1 HB1
                go_wp2
                go_roundw
                case rel =>
                  refine ⟨a', cap', q + 1, es ++ [21], t', by first | (simp; done) | (simp; omega), by go_num, by simp only [List.length_append, List.length_cons, List.length_nil] at hl4 ⊢; omega, Lib.hid ⟨?_, H3.out.2, HT2.out, HST.out⟩⟩
                  have h := Own.wide2 H3.out.1 hwsz (Nat.le_refl _)
                  have e1 : (es ++ [21]).length = es.length + 1 := by simp
                  have e2 : ints (es ++ [21]) = ints [] ++ (ints es ++ ints [21]) := by simp [ints]
                  unfold OwnI
                  rw [e1, e2]
                  exact h
                case measure => simp [slLen]; omega
              · have HF := Lib.hid (show starredP (singleF sum) (c :: t) = some (es, b :: t') by rw [HR.out.2.2.2, starP, if_neg hb42])
                have hbI : ((b.toNat : Int) == 42) = false := by simp; omega
                go_wp2
                refine bodyPost_ret (v := .tuple #[.slice a es.length cap, .int .i64 q, .bool true]) (by simp [results, Tryd.results29, go_sem]) rfl ?_
                exact ⟨_, q, es, true, rfl, HR.out.2.1, HR.out.1, by omega, fun _ => ⟨b :: t', HF.out, HR.out.2.2.1⟩, by intro h; cases h⟩
      · have hnl : (97 : Int) ≤ c.toNat → ¬ (c.toNat : Int) ≤ 99 := fun h1 h2 => hlet ⟨by omega, by omega⟩
        have HNL := Lib.hid hlet
        have hcmp : ((97 : Int) ≤ c.toNat ∧ ¬ (c.toNat : Int) ≤ 99) ∨ ¬ (97 : Int) ≤ c.toNat := by omega
        clear hlet hnl
        rcases hcI with hcI | ⟨hcI, hdI⟩
        · rcases hcmp with ⟨i97, i99⟩ | i97
          · go_enter Tryd.func29, Tryd.ntmps29
            go_wp2
            simp only [← HWA.out]
            go_loopw [9, 10, 11, 15] (fun o tt f en wr => (∃ k : Nat, 1 ≤ k ∧ k ≤ 7 ∧ o = .slice (some ⟨w.heap.size, 0, none⟩) 0 0 ∧ tt = .int .i64 (n : Int) ∧ f = .bool false ∧ en = .int .i64 ((n : Int) + (k : Int)) ∧ Hid ((∀ j, 1 ≤ j → j < k → readT ((c :: t).take j) = none) ∧ Below wa.heap.size wa wr)) ∨
                (∃ (k j : Nat) (g : Nat), 1 ≤ k ∧ k ≤ 6 ∧ k ≤ (c :: t).length ∧ o = .slice (some ⟨g, 0, none⟩) 1 1 ∧ tt = .int .i64 ((n : Int) + (k : Int)) ∧ f = .bool true ∧ en = .int .i64 ((n : Int) + (k : Int) + 1) ∧ Hid (readT ((c :: t).take k) = some j ∧ Below wa.heap.size wa wr ∧ OwnI w.heap.size wr.heap.size 3 wr (.slice (some ⟨g, 0, none⟩) 1 1) [(j : Int)]))) (fun _ _ f en _ => match f with | .bool true => 0 | _ => n + 10 - (intOf en).toNat)
            case atStart => exact .inl ⟨1, by omega, by omega, rfl, rfl, rfl, rfl, Lib.hid ⟨fun j h1 h2 => by omega, Below.refl _ _⟩⟩
            case round =>
              rename World => wr
              rcases hrel with ⟨k, hk1, hk7, rfl, rfl, rfl, rfl, HQ⟩ | ⟨k, j, g, hk1, hk6, hkl, rfl, rfl, rfl, rfl, HQ⟩
              · by_cases hk6 : k ≤ 6 ∧ k ≤ (c :: t).length
                · obtain ⟨hk6, hkl⟩ := hk6
                  have j1 : (n : Int) + (k : Int) ≤ txt.length := by omega
                  have j2 : (n : Int) + (k : Int) ≤ (n : Int) + 6 := by omega
                  have j3 : (n : Int) ≤ (n : Int) + (k : Int) := by omega
                  have j4 : ((n : Int) + (k : Int)).toNat = n + k := by omega
                  have j5 : (0 : Int) ≤ (n : Int) + (k : Int) := by omega
                  have hex := ext_sub txt (c :: t) n k HT.out
                  obtain ⟨x, hx⟩ : ∃ x, x = (c :: t).take k := ⟨_, rfl⟩
                  rw [← hx] at hex
                  have HX := Lib.hid hx
                  clear hx
                  go_wp2_with fail
                  refine (spec_ReadTest x _ rfl wr).mono ?_
                  rintro e' w5 ⟨rfl, hb5⟩
                  have hs5 := hb5.size
                  have hsr := HQ.out.2.size
                  cases hrt : readT x with
                  | none =>
                    have HN := Lib.hid (show (∀ j, 1 ≤ j → j < k + 1 → readT ((c :: t).take j) = none) ∧ Below wa.heap.size wa w5 from ⟨fun j h1 h2 => by
                      by_cases hj : j < k
                      · exact HQ.out.1 j h1 hj
                      · obtain rfl : j = k := by omega
                        rw [← HX.out]; exact hrt, HQ.out.2.trans (hb5.mono hsr)⟩)
                    rw [show rdT none = .tuple #[.int .i64 (-1), .bool false] from rfl]
                    clear hrt hb5
                    go_wp2
                    go_roundw
                    case rel => exact .inl ⟨k + 1, by omega, by omega, rfl, rfl, rfl, by first | rfl | go_num | (simp; omega), HN⟩
                    case measure => simp [intOf]; omega
                  | some j =>
                    have hown := one_own (j : Int) w5
                    obtain ⟨w6, hw6⟩ : ∃ w6, w6 = w5.alloc (.cells #[.int .i64 (j : Int)] 3) := ⟨_, rfl⟩
                    rw [← hw6] at hown
                    have hb6 : Below w5.heap.size w5 w6 := by rw [hw6]; exact al_below _ _
                    have HN := Lib.hid (show readT ((c :: t).take k) = some j ∧ Below wa.heap.size wa w6 ∧ OwnI w.heap.size w6.heap.size 3 w6 (.slice (some ⟨w5.heap.size, 0, none⟩) 1 1) [(j : Int)] from
                      ⟨by rw [← HX.out]; exact hrt, (HQ.out.2.trans (hb5.mono hsr)).trans (hb6.mono (by omega)), hown.lower (by omega) (Nat.le_refl _)⟩)
                    have HW6 := Lib.hid hw6
                    rw [show rdT (some j) = .tuple #[.int .i64 j, .bool true] from rfl]
                    clear hrt hb5 hown hw6 hb6
                    go_wp2
                    simp only [← HW6.out]
                    go_roundw
                    case rel => exact .inr ⟨k, j, w5.heap.size, by omega, by omega, hkl, by first | rfl | trivial, by first | rfl | trivial | go_num, by first | rfl | trivial, by first | rfl | trivial | go_num | (simp; omega), HN⟩
                    case measure => simp [intOf]; omega
                · have HP := Lib.hid (show starredP (singleF sum) (c :: t) = none by
                    have := leaf_none HNL.out fun j h1 h2 h3 => HQ.out.1 j h1 (by omega)
                    simp [starredP, HSF.out, this])
                  have HBR := Lib.hid (HBA.out.trans (HQ.out.2.mono (by omega)))
                  have HOR := Lib.hid ((HOA.out.below HQ.out.2 (Nat.le_refl _)).wide2' HQ.out.2.size)
                  have hout : ((n : Int) + (k : Int) ≤ txt.length ∧ ¬ (n : Int) + (k : Int) ≤ (n : Int) + 6) ∨ ¬ (n : Int) + (k : Int) ≤ txt.length := by omega
                  clear HQ
                  rcases hout with ⟨j1, j2⟩ | j1
                  all_goals (
                    go_wp2
                    go_loopw [9, 10] (fun v i wx => v = .slice (some ⟨w.heap.size, 0, none⟩) 0 0 ∧ i = .int .i64 (n : Int) ∧ wr = wx) (fun _ _ _ => 0)
                    case atStart => exact ⟨rfl, rfl, rfl⟩
                    case round =>
                      obtain ⟨rfl, rfl, rfl⟩ := hrel
                      go_wp2
                      refine bodyPost_ret (v := .tuple #[.slice (some ⟨w.heap.size, 0, none⟩) 0 0, .int .i64 n, .bool false]) (by simp [results, Tryd.results29, go_sem]) rfl ?_
                      exact ⟨_, n, [], false, rfl, HBR.out, HOR.out, Nat.zero_le _, (by intro h; cases h), fun _ => HP.out⟩)
              · have hlk : ((c :: t).drop k).length + k = (c :: t).length := by rw [List.length_drop]; omega
                have HI := Lib.hid (And.intro HQ.out.2.2 (And.intro (HBA.out.trans (HQ.out.2.1.mono (by omega))) (And.intro (HT.out.skip k hkl) (show starredP (singleF sum) (c :: t) = some (starP [(j : Int)] ((c :: t).drop k)) by simp [starredP, HSF.out, leaf_first HQ.out.1]))))
                clear HQ
                have hout : ((n : Int) + (k : Int) + 1 ≤ txt.length ∧ (n : Int) + (k : Int) + 1 ≤ (n : Int) + 6) ∨ ((n : Int) + (k : Int) + 1 ≤ txt.length ∧ ¬ (n : Int) + (k : Int) + 1 ≤ (n : Int) + 6) ∨ ¬ (n : Int) + (k : Int) + 1 ≤ txt.length := by omega
                rcases hout with ⟨j1, j2⟩ | ⟨j1, j2⟩ | j1
                all_goals (
                  go_wp2
                  go_loopw [9, 10] (fun v i wr => ∃ (a : Option Addr) (cap q : Nat) (es : List Int) (s' : List UInt8), v = .slice a es.length cap ∧ i = .int .i64 q ∧ es.length + s'.length ≤ (c :: t).length ∧
                      Hid (OwnI w.heap.size wr.heap.size 3 wr (.slice a es.length cap) es ∧ Below w.heap.size w wr ∧ Tail txt s' q ∧ starredP (singleF sum) (c :: t) = some (starP es s'))) (fun v _ _ => 400 - slLen v)
                  case atStart => exact ⟨some ⟨g, 0, none⟩, 1, n + k, [(j : Int)], (c :: t).drop k, by first | rfl | simp, by first | rfl | go_num, by simp only [List.length_singleton]; omega, HI⟩
                  case round =>
                    obtain ⟨a, cap, q, es, s', rfl, rfl, hl2, HR⟩ := hrel
                    have hqT := HR.out.2.2.1.2
                    cases s' with
                    | nil =>
                      have HF := Lib.hid (show starredP (singleF sum) (c :: t) = some (es, []) from HR.out.2.2.2)
                      have hqe : q = txt.length := by simpa using hqT
                      have hqI : ¬ (q : Int) < txt.length := by omega
                      clear hqT
                      go_wp2
                      refine bodyPost_ret (v := .tuple #[.slice a es.length cap, .int .i64 q, .bool true]) (by simp [results, Tryd.results29, go_sem, hqe]) rfl ?_
                      exact ⟨_, q, es, true, rfl, HR.out.2.1, HR.out.1, by omega, fun _ => ⟨[], HF.out, HR.out.2.2.1⟩, by intro h; cases h⟩
                    | cons b t' =>
                      obtain ⟨hlq, hbq⟩ := HR.out.2.2.1.get
                      have hgq : ∀ hh : q < (ByteArray.mk txt.toArray).size, (ByteArray.mk txt.toArray)[q]'hh = b := fun _ => hbq
                      have hqI : (q : Int) < txt.length := by omega
                      by_cases hb42 : b.toNat = 42
                      · have HST := Lib.hid (show starredP (singleF sum) (c :: t) = some (starP (es ++ [21]) t') by rw [HR.out.2.2.2, starP, if_pos hb42])
                        have hbI : ((b.toNat : Int) == 42) = true := by simp; omega
                        have HX := Lib.hid (HR.out.1.sl)
                        have hwsz := HR.out.2.1.size
                        have H0 : Hid (Own 1 wr.heap.size (wr.heap.size + 1) 3 (wr.alloc (.cells (ints []).toArray 3)) (.slice (some ⟨wr.heap.size, 0, none⟩) 0 0) 0 (ints [])) := Lib.hid (Own.lit 1 3 wr (ints []) 0 (by omega) rfl)
                        obtain ⟨w0, hw0⟩ : ∃ w0, w0 = wr.alloc (.cells (ints []).toArray 3) := ⟨_, rfl⟩
                        have hb0 : Below wr.heap.size wr w0 := by rw [hw0]; exact (Below.refl _ _).alloc (Nat.le_refl _) _
                        have hs0 : w0.heap.size = wr.heap.size + 1 := by rw [hw0]; simp
                        rw [← hw0] at H0
                        have HW0 := Lib.hid hw0
                        have KX := Lib.hid (HX.out.below hb0 (Nat.le_refl _))
                        have HB0 := Lib.hid (HR.out.2.1.trans (hb0.mono hwsz))
                        have HT2 := Lib.hid HR.out.2.2.1.next
                        have hl3 : es.length ≤ 199 := by omega
                        have hl4 : es.length + 1 + t'.length ≤ (c :: t).length := by simp only [List.length_cons] at hl2 ⊢; omega
                        clear hw0 hb0 hb42 hqT HX
                        go_wp2_with (at_builtin; rw [show wr.alloc (.cells #[] 3) = w0 from HW0.out.symm]; refine wpList_app_sl rfl _ _ 24 rfl 3 (.int .i64 0) 1 8 Tryd.underlying24 info_int rfl (by decide) (by decide) rfl H0.out rfl KX.out (ints_one _) ?c1 ?c2 ?_)
                        case c1 => omega
                        case c2 => omega
                        intro v1 w1 ho1 _ hout1 _
                        have O1 := Lib.hid ho1
                        have hs1 := hout1.size
                        have HB1 := Lib.hid (Below.outside HB0.out hout1 hwsz (by omega))
                        clear ho1 hout1 KX H0 HB0
                        go_wp2_with (at_builtin; refine wpList_app_lit w1 rfl _ _ 24 rfl 3 (.int .i64 0) 1 8 Tryd.underlying24 info_int rfl (by decide) (by decide) rfl O1.out 1 (ints [21]) rfl rfl (ints_one _) rfl ?c1 ?c2 ?_)
                        case c1 => omega
                        case c2 => omega
                        intro v2 w2 ho2 hout2 _
                        obtain ⟨a', cap', rfl, _⟩ := Own.open ho2
                        have H3 := Lib.hid (And.intro ho2 (Below.outside HB1.out hout2 hwsz (by omega)))
                        have hs2 := hout2.size
                        clear ho2 hout2 O1 HB1
                        go_wp2
                        go_roundw
                        case rel =>
                          refine ⟨a', cap', q + 1, es ++ [21], t', by first | (simp; done) | (simp; omega), by go_num, by simp only [List.length_append, List.length_cons, List.length_nil] at hl4 ⊢; omega, Lib.hid ⟨?_, H3.out.2, HT2.out, HST.out⟩⟩
                          have h := Own.wide2 H3.out.1 hwsz (Nat.le_refl _)
                          have e1 : (es ++ [21]).length = es.length + 1 := by simp
                          have e2 : ints (es ++ [21]) = ints [] ++ (ints es ++ ints [21]) := by simp [ints]
                          unfold OwnI
                          rw [e1, e2]
                          exact h
                        case measure => simp [slLen]; omega
                      · have HF := Lib.hid (show starredP (singleF sum) (c :: t) = some (es, b :: t') by rw [HR.out.2.2.2, starP, if_neg hb42])
                        have hbI : ((b.toNat : Int) == 42) = false := by simp; omega
                        go_wp2
                        refine bodyPost_ret (v := .tuple #[.slice a es.length cap, .int .i64 q, .bool true]) (by simp [results, Tryd.results29, go_sem]) rfl ?_
                        exact ⟨_, q, es, true, rfl, HR.out.2.1, HR.out.1, by omega, fun _ => ⟨b :: t', HF.out, HR.out.2.2.1⟩, by intro h; cases h⟩)
          · go_enter Tryd.func29, Tryd.ntmps29
            go_wp2
            simp only [← HWA.out]
            go_loopw [9, 10, 11, 15] (fun o tt f en wr => (∃ k : Nat, 1 ≤ k ∧ k ≤ 7 ∧ o = .slice (some ⟨w.heap.size, 0, none⟩) 0 0 ∧ tt = .int .i64 (n : Int) ∧ f = .bool false ∧ en = .int .i64 ((n : Int) + (k : Int)) ∧ Hid ((∀ j, 1 ≤ j → j < k → readT ((c :: t).take j) = none) ∧ Below wa.heap.size wa wr)) ∨
                (∃ (k j : Nat) (g : Nat), 1 ≤ k ∧ k ≤ 6 ∧ k ≤ (c :: t).length ∧ o = .slice (some ⟨g, 0, none⟩) 1 1 ∧ tt = .int .i64 ((n : Int) + (k : Int)) ∧ f = .bool true ∧ en = .int .i64 ((n : Int) + (k : Int) + 1) ∧ Hid (readT ((c :: t).take k) = some j ∧ Below wa.heap.size wa wr ∧ OwnI w.heap.size wr.heap.size 3 wr (.slice (some ⟨g, 0, none⟩) 1 1) [(j : Int)]))) (fun _ _ f en _ => match f with | .bool true => 0 | _ => n + 10 - (intOf en).toNat)
            case atStart => exact .inl ⟨1, by omega, by omega, rfl, rfl, rfl, rfl, Lib.hid ⟨fun j h1 h2 => by omega, Below.refl _ _⟩⟩
            case round =>
              rename World => wr
              rcases hrel with ⟨k, hk1, hk7, rfl, rfl, rfl, rfl, HQ⟩ | ⟨k, j, g, hk1, hk6, hkl, rfl, rfl, rfl, rfl, HQ⟩
              · by_cases hk6 : k ≤ 6 ∧ k ≤ (c :: t).length
                · obtain ⟨hk6, hkl⟩ := hk6
                  have j1 : (n : Int) + (k : Int) ≤ txt.length := by omega
                  have j2 : (n : Int) + (k : Int) ≤ (n : Int) + 6 := by omega
                  have j3 : (n : Int) ≤ (n : Int) + (k : Int) := by omega
                  have j4 : ((n : Int) + (k : Int)).toNat = n + k := by omega
                  have j5 : (0 : Int) ≤ (n : Int) + (k : Int) := by omega
                  have hex := ext_sub txt (c :: t) n k HT.out
                  obtain ⟨x, hx⟩ : ∃ x, x = (c :: t).take k := ⟨_, rfl⟩
                  rw [← hx] at hex
                  have HX := Lib.hid hx
                  clear hx
                  go_wp2_with fail
                  refine (spec_ReadTest x _ rfl wr).mono ?_
                  rintro e' w5 ⟨rfl, hb5⟩
                  have hs5 := hb5.size
                  have hsr := HQ.out.2.size
                  cases hrt : readT x with
                  | none =>
                    have HN := Lib.hid (show (∀ j, 1 ≤ j → j < k + 1 → readT ((c :: t).take j) = none) ∧ Below wa.heap.size wa w5 from ⟨fun j h1 h2 => by
                      by_cases hj : j < k
                      · exact HQ.out.1 j h1 hj
                      · obtain rfl : j = k := by omega
                        rw [← HX.out]; exact hrt, HQ.out.2.trans (hb5.mono hsr)⟩)
                    rw [show rdT none = .tuple #[.int .i64 (-1), .bool false] from rfl]
                    clear hrt hb5
                    go_wp2
                    go_roundw
                    case rel => exact .inl ⟨k + 1, by omega, by omega, rfl, rfl, rfl, by first | rfl | go_num | (simp; omega), HN⟩
                    case measure => simp [intOf]; omega
                  | some j =>
                    have hown := one_own (j : Int) w5
                    obtain ⟨w6, hw6⟩ : ∃ w6, w6 = w5.alloc (.cells #[.int .i64 (j : Int)] 3) := ⟨_, rfl⟩
                    rw [← hw6] at hown
                    have hb6 : Below w5.heap.size w5 w6 := by rw [hw6]; exact al_below _ _
                    have HN := Lib.hid (show readT ((c :: t).take k) = some j ∧ Below wa.heap.size wa w6 ∧ OwnI w.heap.size w6.heap.size 3 w6 (.slice (some ⟨w5.heap.size, 0, none⟩) 1 1) [(j : Int)] from
                      ⟨by rw [← HX.out]; exact hrt, (HQ.out.2.trans (hb5.mono hsr)).trans (hb6.mono (by omega)), hown.lower (by omega) (Nat.le_refl _)⟩)
                    have HW6 := Lib.hid hw6
                    rw [show rdT (some j) = .tuple #[.int .i64 j, .bool true] from rfl]
                    clear hrt hb5 hown hw6 hb6
                    go_wp2
                    simp only [← HW6.out]
                    go_roundw
                    case rel => exact .inr ⟨k, j, w5.heap.size, by omega, by omega, hkl, by first | rfl | trivial, by first | rfl | trivial | go_num, by first | rfl | trivial, by first | rfl | trivial | go_num | (simp; omega), HN⟩
                    case measure => simp [intOf]; omega
                · have HP := Lib.hid (show starredP (singleF sum) (c :: t) = none by
                    have := leaf_none HNL.out fun j h1 h2 h3 => HQ.out.1 j h1 (by omega)
                    simp [starredP, HSF.out, this])
                  have HBR := Lib.hid (HBA.out.trans (HQ.out.2.mono (by omega)))
                  have HOR := Lib.hid ((HOA.out.below HQ.out.2 (Nat.le_refl _)).wide2' HQ.out.2.size)
                  have hout : ((n : Int) + (k : Int) ≤ txt.length ∧ ¬ (n : Int) + (k : Int) ≤ (n : Int) + 6) ∨ ¬ (n : Int) + (k : Int) ≤ txt.length := by omega
                  clear HQ
                  rcases hout with ⟨j1, j2⟩ | j1
                  all_goals (
                    go_wp2
                    go_loopw [9, 10] (fun v i wx => v = .slice (some ⟨w.heap.size, 0, none⟩) 0 0 ∧ i = .int .i64 (n : Int) ∧ wr = wx) (fun _ _ _ => 0)
                    case atStart => exact ⟨rfl, rfl, rfl⟩
                    case round =>
                      obtain ⟨rfl, rfl, rfl⟩ := hrel
                      go_wp2
                      refine bodyPost_ret (v := .tuple #[.slice (some ⟨w.heap.size, 0, none⟩) 0 0, .int .i64 n, .bool false]) (by simp [results, Tryd.results29, go_sem]) rfl ?_
                      exact ⟨_, n, [], false, rfl, HBR.out, HOR.out, Nat.zero_le _, (by intro h; cases h), fun _ => HP.out⟩)
              · have hlk : ((c :: t).drop k).length + k = (c :: t).length := by rw [List.length_drop]; omega
                have HI := Lib.hid (And.intro HQ.out.2.2 (And.intro (HBA.out.trans (HQ.out.2.1.mono (by omega))) (And.intro (HT.out.skip k hkl) (show starredP (singleF sum) (c :: t) = some (starP [(j : Int)] ((c :: t).drop k)) by simp [starredP, HSF.out, leaf_first HQ.out.1]))))
                clear HQ
                have hout : ((n : Int) + (k : Int) + 1 ≤ txt.length ∧ (n : Int) + (k : Int) + 1 ≤ (n : Int) + 6) ∨ ((n : Int) + (k : Int) + 1 ≤ txt.length ∧ ¬ (n : Int) + (k : Int) + 1 ≤ (n : Int) + 6) ∨ ¬ (n : Int) + (k : Int) + 1 ≤ txt.length := by omega
                rcases hout with ⟨j1, j2⟩ | ⟨j1, j2⟩ | j1
                all_goals (
                  go_wp2
                  go_loopw [9, 10] (fun v i wr => ∃ (a : Option Addr) (cap q : Nat) (es : List Int) (s' : List UInt8), v = .slice a es.length cap ∧ i = .int .i64 q ∧ es.length + s'.length ≤ (c :: t).length ∧
                      Hid (OwnI w.heap.size wr.heap.size 3 wr (.slice a es.length cap) es ∧ Below w.heap.size w wr ∧ Tail txt s' q ∧ starredP (singleF sum) (c :: t) = some (starP es s'))) (fun v _ _ => 400 - slLen v)
                  case atStart => exact ⟨some ⟨g, 0, none⟩, 1, n + k, [(j : Int)], (c :: t).drop k, by first | rfl | simp, by first | rfl | go_num, by simp only [List.length_singleton]; omega, HI⟩
                  case round =>
                    obtain ⟨a, cap, q, es, s', rfl, rfl, hl2, HR⟩ := hrel
                    have hqT := HR.out.2.2.1.2
                    cases s' with
                    | nil =>
                      have HF := Lib.hid (show starredP (singleF sum) (c :: t) = some (es, []) from HR.out.2.2.2)
                      have hqe : q = txt.length := by simpa using hqT
                      have hqI : ¬ (q : Int) < txt.length := by omega
                      clear hqT
                      go_wp2
                      refine bodyPost_ret (v := .tuple #[.slice a es.length cap, .int .i64 q, .bool true]) (by simp [results, Tryd.results29, go_sem, hqe]) rfl ?_
                      exact ⟨_, q, es, true, rfl, HR.out.2.1, HR.out.1, by omega, fun _ => ⟨[], HF.out, HR.out.2.2.1⟩, by intro h; cases h⟩
                    | cons b t' =>
                      obtain ⟨hlq, hbq⟩ := HR.out.2.2.1.get
                      have hgq : ∀ hh : q < (ByteArray.mk txt.toArray).size, (ByteArray.mk txt.toArray)[q]'hh = b := fun _ => hbq
                      have hqI : (q : Int) < txt.length := by omega
                      by_cases hb42 : b.toNat = 42
                      · have HST := Lib.hid (show starredP (singleF sum) (c :: t) = some (starP (es ++ [21]) t') by rw [HR.out.2.2.2, starP, if_pos hb42])
                        have hbI : ((b.toNat : Int) == 42) = true := by simp; omega
                        have HX := Lib.hid (HR.out.1.sl)
                        have hwsz := HR.out.2.1.size
                        have H0 : Hid (Own 1 wr.heap.size (wr.heap.size + 1) 3 (wr.alloc (.cells (ints []).toArray 3)) (.slice (some ⟨wr.heap.size, 0, none⟩) 0 0) 0 (ints [])) := Lib.hid (Own.lit 1 3 wr (ints []) 0 (by omega) rfl)
                        obtain ⟨w0, hw0⟩ : ∃ w0, w0 = wr.alloc (.cells (ints []).toArray 3) := ⟨_, rfl⟩
                        have hb0 : Below wr.heap.size wr w0 := by rw [hw0]; exact (Below.refl _ _).alloc (Nat.le_refl _) _
                        have hs0 : w0.heap.size = wr.heap.size + 1 := by rw [hw0]; simp
                        rw [← hw0] at H0
                        have HW0 := Lib.hid hw0
                        have KX := Lib.hid (HX.out.below hb0 (Nat.le_refl _))
                        have HB0 := Lib.hid (HR.out.2.1.trans (hb0.mono hwsz))
                        have HT2 := Lib.hid HR.out.2.2.1.next
                        have hl3 : es.length ≤ 199 := by omega
                        have hl4 : es.length + 1 + t'.length ≤ (c :: t).length := by simp only [List.length_cons] at hl2 ⊢; omega
                        clear hw0 hb0 hb42 hqT HX
                        go_wp2_with (at_builtin; rw [show wr.alloc (.cells #[] 3) = w0 from HW0.out.symm]; refine wpList_app_sl rfl _ _ 24 rfl 3 (.int .i64 0) 1 8 Tryd.underlying24 info_int rfl (by decide) (by decide) rfl H0.out rfl KX.out (ints_one _) ?c1 ?c2 ?_)
                        case c1 => omega
                        case c2 => omega
                        intro v1 w1 ho1 _ hout1 _
                        have O1 := Lib.hid ho1
                        have hs1 := hout1.size
                        have HB1 := Lib.hid (Below.outside HB0.out hout1 hwsz (by omega))
                        clear ho1 hout1 KX H0 HB0
                        go_wp2_with (at_builtin; refine wpList_app_lit w1 rfl _ _ 24 rfl 3 (.int .i64 0) 1 8 Tryd.underlying24 info_int rfl (by decide) (by decide) rfl O1.out 1 (ints [21]) rfl rfl (ints_one _) rfl ?c1 ?c2 ?_)
                        case c1 => omega
                        case c2 => omega
                        intro v2 w2 ho2 hout2 _
                        obtain ⟨a', cap', rfl, _⟩ := Own.open ho2
                        have H3 := Lib.hid (And.intro ho2 (Below.outside HB1.out hout2 hwsz (by omega)))
                        have hs2 := hout2.size
                        clear ho2 hout2 O1 HB1
                        go_wp2
                        go_roundw
                        case rel =>
                          refine ⟨a', cap', q + 1, es ++ [21], t', by first | (simp; done) | (simp; omega), by go_num, by simp only [List.length_append, List.length_cons, List.length_nil] at hl4 ⊢; omega, Lib.hid ⟨?_, H3.out.2, HT2.out, HST.out⟩⟩
                          have h := Own.wide2 H3.out.1 hwsz (Nat.le_refl _)
                          have e1 : (es ++ [21]).length = es.length + 1 := by simp
                          have e2 : ints (es ++ [21]) = ints [] ++ (ints es ++ ints [21]) := by simp [ints]
                          unfold OwnI
                          rw [e1, e2]
                          exact h
                        case measure => simp [slLen]; omega
                      · have HF := Lib.hid (show starredP (singleF sum) (c :: t) = some (es, b :: t') by rw [HR.out.2.2.2, starP, if_neg hb42])
                        have hbI : ((b.toNat : Int) == 42) = false := by simp; omega
                        go_wp2
                        refine bodyPost_ret (v := .tuple #[.slice a es.length cap, .int .i64 q, .bool true]) (by simp [results, Tryd.results29, go_sem]) rfl ?_
                        exact ⟨_, q, es, true, rfl, HR.out.2.1, HR.out.1, by omega, fun _ => ⟨b :: t', HF.out, HR.out.2.2.1⟩, by intro h; cases h⟩)
        · have i97 : ¬ (97 : Int) ≤ c.toNat := by simp at hcI; omega
          clear hcmp
          go_enter Tryd.func29, Tryd.ntmps29
          go_wp2
          simp only [← HWA.out]
          go_loopw [9, 10, 11, 15] (fun o tt f en wr => (∃ k : Nat, 1 ≤ k ∧ k ≤ 7 ∧ o = .slice (some ⟨w.heap.size, 0, none⟩) 0 0 ∧ tt = .int .i64 (n : Int) ∧ f = .bool false ∧ en = .int .i64 ((n : Int) + (k : Int)) ∧ Hid ((∀ j, 1 ≤ j → j < k → readT ((c :: t).take j) = none) ∧ Below wa.heap.size wa wr)) ∨
              (∃ (k j : Nat) (g : Nat), 1 ≤ k ∧ k ≤ 6 ∧ k ≤ (c :: t).length ∧ o = .slice (some ⟨g, 0, none⟩) 1 1 ∧ tt = .int .i64 ((n : Int) + (k : Int)) ∧ f = .bool true ∧ en = .int .i64 ((n : Int) + (k : Int) + 1) ∧ Hid (readT ((c :: t).take k) = some j ∧ Below wa.heap.size wa wr ∧ OwnI w.heap.size wr.heap.size 3 wr (.slice (some ⟨g, 0, none⟩) 1 1) [(j : Int)]))) (fun _ _ f en _ => match f with | .bool true => 0 | _ => n + 10 - (intOf en).toNat)
          case atStart => exact .inl ⟨1, by omega, by omega, rfl, rfl, rfl, rfl, Lib.hid ⟨fun j h1 h2 => by omega, Below.refl _ _⟩⟩
          case round =>
            rename World => wr
            rcases hrel with ⟨k, hk1, hk7, rfl, rfl, rfl, rfl, HQ⟩ | ⟨k, j, g, hk1, hk6, hkl, rfl, rfl, rfl, rfl, HQ⟩
            · by_cases hk6 : k ≤ 6 ∧ k ≤ (c :: t).length
              · obtain ⟨hk6, hkl⟩ := hk6
                have j1 : (n : Int) + (k : Int) ≤ txt.length := by omega
                have j2 : (n : Int) + (k : Int) ≤ (n : Int) + 6 := by omega
                have j3 : (n : Int) ≤ (n : Int) + (k : Int) := by omega
                have j4 : ((n : Int) + (k : Int)).toNat = n + k := by omega
                have j5 : (0 : Int) ≤ (n : Int) + (k : Int) := by omega
                have hex := ext_sub txt (c :: t) n k HT.out
                obtain ⟨x, hx⟩ : ∃ x, x = (c :: t).take k := ⟨_, rfl⟩
                rw [← hx] at hex
                have HX := Lib.hid hx
                clear hx
                go_wp2_with fail
                refine (spec_ReadTest x _ rfl wr).mono ?_
                rintro e' w5 ⟨rfl, hb5⟩
                have hs5 := hb5.size
                have hsr := HQ.out.2.size
                cases hrt : readT x with
                | none =>
                  have HN := Lib.hid (show (∀ j, 1 ≤ j → j < k + 1 → readT ((c :: t).take j) = none) ∧ Below wa.heap.size wa w5 from ⟨fun j h1 h2 => by
                    by_cases hj : j < k
                    · exact HQ.out.1 j h1 hj
                    · obtain rfl : j = k := by omega
                      rw [← HX.out]; exact hrt, HQ.out.2.trans (hb5.mono hsr)⟩)
                  rw [show rdT none = .tuple #[.int .i64 (-1), .bool false] from rfl]
                  clear hrt hb5
                  go_wp2
                  go_roundw
                  case rel => exact .inl ⟨k + 1, by omega, by omega, rfl, rfl, rfl, by first | rfl | go_num | (simp; omega), HN⟩
                  case measure => simp [intOf]; omega
                | some j =>
                  have hown := one_own (j : Int) w5
                  obtain ⟨w6, hw6⟩ : ∃ w6, w6 = w5.alloc (.cells #[.int .i64 (j : Int)] 3) := ⟨_, rfl⟩
                  rw [← hw6] at hown
                  have hb6 : Below w5.heap.size w5 w6 := by rw [hw6]; exact al_below _ _
                  have HN := Lib.hid (show readT ((c :: t).take k) = some j ∧ Below wa.heap.size wa w6 ∧ OwnI w.heap.size w6.heap.size 3 w6 (.slice (some ⟨w5.heap.size, 0, none⟩) 1 1) [(j : Int)] from
                    ⟨by rw [← HX.out]; exact hrt, (HQ.out.2.trans (hb5.mono hsr)).trans (hb6.mono (by omega)), hown.lower (by omega) (Nat.le_refl _)⟩)
                  have HW6 := Lib.hid hw6
                  rw [show rdT (some j) = .tuple #[.int .i64 j, .bool true] from rfl]
                  clear hrt hb5 hown hw6 hb6
                  go_wp2
                  simp only [← HW6.out]
                  go_roundw
                  case rel => exact .inr ⟨k, j, w5.heap.size, by omega, by omega, hkl, by first | rfl | trivial, by first | rfl | trivial | go_num, by first | rfl | trivial, by first | rfl | trivial | go_num | (simp; omega), HN⟩
                  case measure => simp [intOf]; omega
              · have HP := Lib.hid (show starredP (singleF sum) (c :: t) = none by
                  have := leaf_none HNL.out fun j h1 h2 h3 => HQ.out.1 j h1 (by omega)
                  simp [starredP, HSF.out, this])
                have HBR := Lib.hid (HBA.out.trans (HQ.out.2.mono (by omega)))
                have HOR := Lib.hid ((HOA.out.below HQ.out.2 (Nat.le_refl _)).wide2' HQ.out.2.size)
                have hout : ((n : Int) + (k : Int) ≤ txt.length ∧ ¬ (n : Int) + (k : Int) ≤ (n : Int) + 6) ∨ ¬ (n : Int) + (k : Int) ≤ txt.length := by omega
                clear HQ
                rcases hout with ⟨j1, j2⟩ | j1
                all_goals (
                  go_wp2
                  go_loopw [9, 10] (fun v i wx => v = .slice (some ⟨w.heap.size, 0, none⟩) 0 0 ∧ i = .int .i64 (n : Int) ∧ wr = wx) (fun _ _ _ => 0)
                  case atStart => exact ⟨rfl, rfl, rfl⟩
                  case round =>
                    obtain ⟨rfl, rfl, rfl⟩ := hrel
                    go_wp2
                    refine bodyPost_ret (v := .tuple #[.slice (some ⟨w.heap.size, 0, none⟩) 0 0, .int .i64 n, .bool false]) (by simp [results, Tryd.results29, go_sem]) rfl ?_
                    exact ⟨_, n, [], false, rfl, HBR.out, HOR.out, Nat.zero_le _, (by intro h; cases h), fun _ => HP.out⟩)
            · have hlk : ((c :: t).drop k).length + k = (c :: t).length := by rw [List.length_drop]; omega
              have HI := Lib.hid (And.intro HQ.out.2.2 (And.intro (HBA.out.trans (HQ.out.2.1.mono (by omega))) (And.intro (HT.out.skip k hkl) (show starredP (singleF sum) (c :: t) = some (starP [(j : Int)] ((c :: t).drop k)) by simp [starredP, HSF.out, leaf_first HQ.out.1]))))
              clear HQ
              have hout : ((n : Int) + (k : Int) + 1 ≤ txt.length ∧ (n : Int) + (k : Int) + 1 ≤ (n : Int) + 6) ∨ ((n : Int) + (k : Int) + 1 ≤ txt.length ∧ ¬ (n : Int) + (k : Int) + 1 ≤ (n : Int) + 6) ∨ ¬ (n : Int) + (k : Int) + 1 ≤ txt.length := by omega
              rcases hout with ⟨j1, j2⟩ | ⟨j1, j2⟩ | j1
              all_goals (
                go_wp2
                go_loopw [9, 10] (fun v i wr => ∃ (a : Option Addr) (cap q : Nat) (es : List Int) (s' : List UInt8), v = .slice a es.length cap ∧ i = .int .i64 q ∧ es.length + s'.length ≤ (c :: t).length ∧
                    Hid (OwnI w.heap.size wr.heap.size 3 wr (.slice a es.length cap) es ∧ Below w.heap.size w wr ∧ Tail txt s' q ∧ starredP (singleF sum) (c :: t) = some (starP es s'))) (fun v _ _ => 400 - slLen v)
                case atStart => exact ⟨some ⟨g, 0, none⟩, 1, n + k, [(j : Int)], (c :: t).drop k, by first | rfl | simp, by first | rfl | go_num, by simp only [List.length_singleton]; omega, HI⟩
                case round =>
                  obtain ⟨a, cap, q, es, s', rfl, rfl, hl2, HR⟩ := hrel
                  have hqT := HR.out.2.2.1.2
                  cases s' with
                  | nil =>
                    have HF := Lib.hid (show starredP (singleF sum) (c :: t) = some (es, []) from HR.out.2.2.2)
                    have hqe : q = txt.length := by simpa using hqT
                    have hqI : ¬ (q : Int) < txt.length := by omega
                    clear hqT
                    go_wp2
                    refine bodyPost_ret (v := .tuple #[.slice a es.length cap, .int .i64 q, .bool true]) (by simp [results, Tryd.results29, go_sem, hqe]) rfl ?_
                    exact ⟨_, q, es, true, rfl, HR.out.2.1, HR.out.1, by omega, fun _ => ⟨[], HF.out, HR.out.2.2.1⟩, by intro h; cases h⟩
                  | cons b t' =>
                    obtain ⟨hlq, hbq⟩ := HR.out.2.2.1.get
                    have hgq : ∀ hh : q < (ByteArray.mk txt.toArray).size, (ByteArray.mk txt.toArray)[q]'hh = b := fun _ => hbq
                    have hqI : (q : Int) < txt.length := by omega
                    by_cases hb42 : b.toNat = 42
                    · have HST := Lib.hid (show starredP (singleF sum) (c :: t) = some (starP (es ++ [21]) t') by rw [HR.out.2.2.2, starP, if_pos hb42])
                      have hbI : ((b.toNat : Int) == 42) = true := by simp; omega
                      have HX := Lib.hid (HR.out.1.sl)
                      have hwsz := HR.out.2.1.size
                      have H0 : Hid (Own 1 wr.heap.size (wr.heap.size + 1) 3 (wr.alloc (.cells (ints []).toArray 3)) (.slice (some ⟨wr.heap.size, 0, none⟩) 0 0) 0 (ints [])) := Lib.hid (Own.lit 1 3 wr (ints []) 0 (by omega) rfl)
                      obtain ⟨w0, hw0⟩ : ∃ w0, w0 = wr.alloc (.cells (ints []).toArray 3) := ⟨_, rfl⟩
                      have hb0 : Below wr.heap.size wr w0 := by rw [hw0]; exact (Below.refl _ _).alloc (Nat.le_refl _) _
                      have hs0 : w0.heap.size = wr.heap.size + 1 := by rw [hw0]; simp
                      rw [← hw0] at H0
                      have HW0 := Lib.hid hw0
                      have KX := Lib.hid (HX.out.below hb0 (Nat.le_refl _))
                      have HB0 := Lib.hid (HR.out.2.1.trans (hb0.mono hwsz))
                      have HT2 := Lib.hid HR.out.2.2.1.next
                      have hl3 : es.length ≤ 199 := by omega
                      have hl4 : es.length + 1 + t'.length ≤ (c :: t).length := by simp only [List.length_cons] at hl2 ⊢; omega
                      clear hw0 hb0 hb42 hqT HX
                      go_wp2_with (at_builtin; rw [show wr.alloc (.cells #[] 3) = w0 from HW0.out.symm]; refine wpList_app_sl rfl _ _ 24 rfl 3 (.int .i64 0) 1 8 Tryd.underlying24 info_int rfl (by decide) (by decide) rfl H0.out rfl KX.out (ints_one _) ?c1 ?c2 ?_)
                      case c1 => omega
                      case c2 => omega
                      intro v1 w1 ho1 _ hout1 _
                      have O1 := Lib.hid ho1
                      have hs1 := hout1.size
                      have HB1 := Lib.hid (Below.outside HB0.out hout1 hwsz (by omega))
                      clear ho1 hout1 KX H0 HB0
                      go_wp2_with (at_builtin; refine wpList_app_lit w1 rfl _ _ 24 rfl 3 (.int .i64 0) 1 8 Tryd.underlying24 info_int rfl (by decide) (by decide) rfl O1.out 1 (ints [21]) rfl rfl (ints_one _) rfl ?c1 ?c2 ?_)
                      case c1 => omega
                      case c2 => omega
                      intro v2 w2 ho2 hout2 _
                      obtain ⟨a', cap', rfl, _⟩ := Own.open ho2
                      have H3 := Lib.hid (And.intro ho2 (Below.outside HB1.out hout2 hwsz (by omega)))
                      have hs2 := hout2.size
                      clear ho2 hout2 O1 HB1
                      go_wp2
                      go_roundw
                      case rel =>
                        refine ⟨a', cap', q + 1, es ++ [21], t', by first | (simp; done) | (simp; omega), by go_num, by simp only [List.length_append, List.length_cons, List.length_nil] at hl4 ⊢; omega, Lib.hid ⟨?_, H3.out.2, HT2.out, HST.out⟩⟩
                        have h := Own.wide2 H3.out.1 hwsz (Nat.le_refl _)
                        have e1 : (es ++ [21]).length = es.length + 1 := by simp
                        have e2 : ints (es ++ [21]) = ints [] ++ (ints es ++ ints [21]) := by simp [ints]
                        unfold OwnI
                        rw [e1, e2]
                        exact h
                      case measure => simp [slLen]; omega
                    · have HF := Lib.hid (show starredP (singleF sum) (c :: t) = some (es, b :: t') by rw [HR.out.2.2.2, starP, if_neg hb42])
                      have hbI : ((b.toNat : Int) == 42) = false := by simp; omega
                      go_wp2
                      refine bodyPost_ret (v := .tuple #[.slice a es.length cap, .int .i64 q, .bool true]) (by simp [results, Tryd.results29, go_sem]) rfl ?_
                      exact ⟨_, q, es, true, rfl, HR.out.2.1, HR.out.1, by omega, fun _ => ⟨b :: t', HF.out, HR.out.2.2.1⟩, by intro h; cases h⟩)
end Go.Proofs.YtacgefknhncgfaaDoor
