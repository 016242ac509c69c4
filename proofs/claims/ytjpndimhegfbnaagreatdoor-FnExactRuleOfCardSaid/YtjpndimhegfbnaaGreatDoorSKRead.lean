/-
  Texts of walks and plain lemmas for this seat; no condition.
-/
import Derived.Test.YtjpndimhegfbnaaGreatDoorKRead3
import Derived.Test.YtjpndimhegfbnaaGreatDoorSReadTest
import Derived.Test.YtjpndimhegfbnaaGreatDoorOwnM
import Derived.Test.YtjpndimhegfbnaaGreatDoorBlk
namespace Go.Proofs.YtjpndimhegfbnaaGreatDoor
open Go.RowKit

/-- s is what the text holds from n on. -/
def Tail (txt s : List UInt8) (n : Nat) : Prop := s = txt.drop n ∧ n + s.length = txt.length
theorem Tail.get {txt t : List UInt8} {d : UInt8} {n : Nat} (h : Tail txt (d :: t) n) : ∃ h : n < txt.length, txt[n] = d := by
  obtain ⟨h1, h2⟩ := h
  have hl : n < txt.length := by simp at h2; omega
  refine ⟨hl, ?_⟩
  rw [List.drop_eq_getElem_cons hl] at h1
  injection h1 with h1 _
  exact h1.symm
theorem Tail.next {txt t : List UInt8} {d : UInt8} {n : Nat} (h : Tail txt (d :: t) n) : Tail txt t (n + 1) := by
  obtain ⟨h1, h2⟩ := h
  have hl : n < txt.length := by simp at h2; omega
  rw [List.drop_eq_getElem_cons hl] at h1
  injection h1 with _ h1
  exact ⟨h1, by simp at h2; omega⟩
/-- What a part of the reader's hands back. -/
def ReadG (txt : List UInt8) (w : World) (e : List Int) (r : List UInt8) (e' : Ending) (w' : World) : Prop :=
  ∃ v n, e' = .returned (.tuple #[v, .int .i64 ((n : Nat) : Int), .bool true]) ∧ Tail txt r n ∧ Below w.heap.size w w' ∧ OwnI w.heap.size w'.heap.size 3 w' v e
def SmallR (p : PR) (m : Nat) : Prop := ∀ (w : World) (txt s : List UInt8) (n deep : Nat) (e : List Int) (r : List UInt8), Tail txt s n → txt.length ≤ 199 → deep + m ≤ 98 → p s = some (e, r) →
  Calls Tryz.prog 127 #[.string ⟨txt.toArray⟩, .int .i64 n, .int .i64 deep] w (ReadG txt w e r)
def GreatR (p : PR) (k : Int) (m : Nat) : Prop := ∀ (w : World) (txt s : List UInt8) (n deep : Nat) (e : List Int) (r : List UInt8), Tail txt s n → txt.length ≤ 199 → deep + m ≤ 98 → p s = some (e, r) →
  Calls Tryz.prog 116 #[.string ⟨txt.toArray⟩, .int .i64 n, .int .i64 k, .int .i64 deep] w (ReadG txt w e r)

theorem ext_one (txt : List UInt8) (n : Nat) (h : n < txt.length) : (ByteArray.mk txt.toArray).extract n (n + 1) = ⟨[txt[n]].toArray⟩ := by
  apply ByteArray.ext
  simp [ByteArray.data_extract]
  rw [List.drop_eq_getElem_cons h]
  rfl

set_option maxRecDepth 100000 in
set_option maxHeartbeats 6400000 in
theorem small_reads (sum : PR) (m : Nat) (hsh : Short sum) (hg : GreatR sum 1 m) : SmallR (starredP (singleP sum)) (m + 1) := by
  intro w txt s n deep e r hT hl hd hp
  simp only [starredP, Option.map_eq_some_iff] at hp
  obtain ⟨⟨e1, r1⟩, hp1, hp2⟩ := hp
  replace hp2 : starP e1 r1 = (e, r) := hp2
  have hlen := single_short hsh _ _ _ hp1
  have hTn := hT.2
  cases s with
  | nil => simp [singleP] at hp1
  | cons c t =>
    obtain ⟨hlt, hc0⟩ := hT.get
    have HTN := Lib.hid hT.next
    have hget : ∀ hh : n < (ByteArray.mk txt.toArray).size, (ByteArray.mk txt.toArray)[n]'hh = c := fun _ => hc0
    have hlt2 : (n : Int) < txt.length := by omega
    have HG := Lib.hid hg
    have HP2 := Lib.hid hp2
    have hwrapn : (n : Int) + 1 ≤ txt.length := by omega
    obtain ⟨wa, hwa⟩ : ∃ wa, wa = w.alloc (.cells #[] 3) := ⟨_, rfl⟩
    have HBA : Hid (Below w.heap.size w wa) := by rw [hwa]; exact Lib.hid ((Below.refl _ _).alloc (Nat.le_refl _) _)
    have hsa : wa.heap.size = w.heap.size + 1 := by rw [hwa]; simp
    have HWA := Lib.hid hwa
    clear hT hg hp2 hwa
    rcases single_open hp1 with ⟨hc, d, hd41, hs⟩ | ⟨hc, h33, h91, rfl, hrest⟩
    · have HP := Lib.hid hs
      have hcI : ((c.toNat : Int) == 40) = true := by simp; omega
      have hcI2 : ¬ (97 : Int) ≤ c.toNat := by omega
      have hdI : ((d.toNat : Int) != 41) = false := by simp; omega
      have hdd : (deep : Int) < 99 := by omega
      clear hp1 hs hc hd41
      go_enter Tryz.func127, Tryz.ntmps127
      go_wp2_with fail
      simp only [← HWA.out]
      refine (HG.out wa txt t (n + 1) (deep + 1) e1 (d :: r1) HTN.out hl (by omega) HP.out).mono ?_
      rintro e' w2 ⟨v2, n2, rfl, hT2, hb, hown⟩
      obtain ⟨hlt3, hd0⟩ := hT2.get
      have hget2 : ∀ hh : n2 < (ByteArray.mk txt.toArray).size, (ByteArray.mk txt.toArray)[n2]'hh = d := fun _ => hd0
      have hlt4 : (n2 : Int) < txt.length := by omega
      obtain ⟨a2, cap2, rfl, _⟩ := Own.open hown
      have HI := Lib.hid (And.intro (hown.lower (by omega : w.heap.size ≤ wa.heap.size) (Nat.le_refl _)) (And.intro (HBA.out.trans (hb.mono (by omega))) (And.intro hT2.next HP2.out)))
      have hlen1 : e1.length + r1.length ≤ 199 := by simp at hlen; have := hTn; simp at this; omega
      clear hb hown hT2
      go_wp2
      go_loopw [9, 10, 11, 15] (fun o tt f en wr => o = .slice a2 e1.length cap2 ∧ tt = .int .i64 ((n2 : Int) + 1) ∧ f = .bool true ∧ en = .int .i64 ((n : Int) + 1) ∧ wr = w2) (fun _ _ _ _ _ => 0)
      case atStart => exact ⟨rfl, rfl, rfl, rfl, rfl⟩
      case round =>
        obtain ⟨rfl, rfl, rfl, rfl, rfl⟩ := hrel
        go_wp2
        go_loopw [9, 10] (fun v i wr => ∃ (a : Option Addr) (cap q : Nat) (es : List Int) (s' : List UInt8), v = .slice a es.length cap ∧ i = .int .i64 q ∧ es.length + s'.length ≤ 199 ∧
            Hid (OwnI w.heap.size wr.heap.size 3 wr (.slice a es.length cap) es ∧ Below w.heap.size w wr ∧ Tail txt s' q ∧ starP es s' = (e, r))) (fun v _ _ => 400 - slLen v)
        case atStart => exact ⟨a2, cap2, n2 + 1, e1, r1, by first | rfl | simp, by go_num, hlen1, HI⟩
        case round =>
          obtain ⟨a, cap, q, es, s', rfl, rfl, hl2, HR⟩ := hrel
          have hqT := HR.out.2.2.1.2
          cases s' with
          | nil =>
            have hst := HR.out.2.2.2
            simp only [starP, Prod.mk.injEq] at hst
            have HST := Lib.hid hst
            have hqe : q = txt.length := by simpa using hqT
            have hqI : ¬ (q : Int) < txt.length := by omega
            clear hst hqT
            go_wp2
            refine bodyPost_ret (v := .tuple #[.slice a es.length cap, .int .i64 q, .bool true]) (by simp [results, Tryz.results127, go_sem, hqe]) rfl ?_
            rw [← HST.out.1, ← HST.out.2]
            exact ⟨_, q, rfl, HR.out.2.2.1, HR.out.2.1, HR.out.1⟩
          | cons b t' =>
            obtain ⟨hlq, hbq⟩ := HR.out.2.2.1.get
            have hgq : ∀ hh : q < (ByteArray.mk txt.toArray).size, (ByteArray.mk txt.toArray)[q]'hh = b := fun _ => hbq
            have hqI : (q : Int) < txt.length := by omega
            have hst := HR.out.2.2.2
            simp only [starP] at hst
            by_cases hb42 : b.toNat = 42
            · rw [if_pos hb42] at hst
              have HST := Lib.hid hst
              have hbI : ((b.toNat : Int) == 42) = true := by simp; omega
              have HX := Lib.hid (HR.out.1.sl)
              have hwsz := HR.out.2.1.size
              have H0 : Hid (Own 1 wr.heap.size (wr.heap.size + 1) 3 (wr.alloc (.cells (ints []).toArray 3)) (.slice (some ⟨wr.heap.size, 0, none⟩) 0 0) 0 (ints [])) := Lib.hid (Own.lit 1 3 wr (ints []) 0 (by omega) rfl)
              obtain ⟨w0, hw0⟩ : ∃ w0, w0 = wr.alloc (.cells (ints []).toArray 3) := ⟨_, rfl⟩
              have hb0 : Below wr.heap.size wr w0 := by rw [hw0]; exact (Below.refl _ _).alloc (Nat.le_refl _) _
              have hs0 : w0.heap.size = wr.heap.size + 1 := by rw [hw0]; simp
              rw [← hw0] at H0
              have HW0 := Lib.hid hw0
              have KX := Lib.hid (HX.out.below hb0 (Nat.le_refl _))
              have HB0 := Lib.hid (HR.out.2.1.trans (hb0.mono hwsz))
              have HT2 := Lib.hid HR.out.2.2.1.next
              have hl3 : es.length ≤ 199 := by omega
              have hl4 : es.length + 1 + t'.length ≤ 199 := by simp at hl2; omega
              clear hw0 hb0 hst hb42 hqT HX
              go_wp2_with (at_builtin; rw [show wr.alloc (.cells #[] 3) = w0 from HW0.out.symm]; refine wpList_app_sl rfl _ _ 22 rfl 3 (.int .i64 0) 1 8 Tryz.underlying22 info_int rfl (by decide) (by decide) rfl H0.out rfl KX.out (ints_one _) ?c1 ?c2 ?_)
              case c1 => omega
              case c2 => omega
              intro v1 w1 ho1 _ hout1 _
              have O1 := Lib.hid ho1
              have hs1 := hout1.size
              have HB1 := Lib.hid (Below.outside HB0.out hout1 hwsz (by omega))
              clear ho1 hout1 KX H0 HB0
              go_wp2_with (at_builtin; refine wpList_app_lit w1 rfl _ _ 22 rfl 3 (.int .i64 0) 1 8 Tryz.underlying22 info_int rfl (by decide) (by decide) rfl O1.out 1 (ints [21]) rfl rfl (ints_one _) rfl ?c1 ?c2 ?_)
              case c1 => omega
              case c2 => omega
              intro v2 w2 ho2 hout2 _
              obtain ⟨a', cap', rfl, _⟩ := Own.open ho2
              have H3 := Lib.hid (And.intro ho2 (Below.outside HB1.out hout2 hwsz (by omega)))
              have hs2 := hout2.size
              clear ho2 hout2 O1 HB1
              go_wp2
              go_roundw
              case rel =>
                refine ⟨a', cap', q + 1, es ++ [21], t', by first | (simp; done) | (simp; omega), by go_num, by simp; omega, Lib.hid ⟨?_, H3.out.2, HT2.out, HST.out⟩⟩
                have h := Own.wide2 H3.out.1 hwsz (Nat.le_refl _)
                have e1 : (es ++ [21]).length = es.length + 1 := by simp
                have e2 : ints (es ++ [21]) = ints [] ++ (ints es ++ ints [21]) := by simp [ints]
                unfold OwnI
                rw [e1, e2]
                exact h
              case measure => simp [slLen]; omega
            · rw [if_neg hb42] at hst
              simp only [Prod.mk.injEq] at hst
              have HST := Lib.hid hst
              have hbI : ((b.toNat : Int) == 42) = false := by simp; omega
              clear hst
              go_wp2
              refine bodyPost_ret (v := .tuple #[.slice a es.length cap, .int .i64 q, .bool true]) (by simp [results, Tryz.results127, go_sem]) rfl ?_
              rw [← HST.out.1, ← HST.out.2]
              exact ⟨_, q, rfl, HR.out.2.2.1, HR.out.2.1, HR.out.1⟩
    · have hcI : ((c.toNat : Int) == 40) = false := by simp; omega
      have hlen1 : e1.length + r.length ≤ e1.length + r.length := Nat.le_refl _
      clear hlen1
      rcases hrest with ⟨h97, h99, rfl⟩ | ⟨hno, k, hk, rfl⟩
      · have i97 : (97 : Int) ≤ c.toNat := by omega
        have i99 : (c.toNat : Int) ≤ 99 := by omega
        have hown := one_own (16 + ((c.toNat : Int) - 97)) wa
        obtain ⟨wb, hwb⟩ : ∃ wb, wb = wa.alloc (.cells #[.int .i64 (16 + ((c.toNat : Int) - 97))] 3) := ⟨_, rfl⟩
        rw [← hwb, hsa] at hown
        have hbb : Below wa.heap.size wa wb := by rw [hwb]; exact (Below.refl _ _).alloc (Nat.le_refl _) _
        have HI := Lib.hid (And.intro (hown.lower (by omega : w.heap.size ≤ w.heap.size + 1) (Nat.le_refl _)) (And.intro (HBA.out.trans (hbb.mono (by omega))) (And.intro HTN.out HP2.out)))
        have hlen1 : [16 + ((c.toNat : Int) - 97)].length + r1.length ≤ 199 := by simp at hlen ⊢; have := hTn; simp at this; omega
        have HWB := Lib.hid hwb
        clear hown hbb hwb hp1
        go_enter Tryz.func127, Tryz.ntmps127
        go_wp2
        simp only [← HWA.out]
        simp only [← HWB.out]
        go_loopw [9, 10, 11, 15] (fun o tt f en wr => o = .slice (some ⟨w.heap.size + 1, 0, none⟩) 1 1 ∧ tt = .int .i64 ((n : Int) + 1) ∧ f = .bool true ∧ en = .int .i64 ((n : Int) + 1) ∧ wr = wb) (fun _ _ _ _ _ => 0)
        case atStart => exact ⟨rfl, rfl, rfl, rfl, rfl⟩
        case round =>
          obtain ⟨rfl, rfl, rfl, rfl, rfl⟩ := hrel
          go_wp2
          go_loopw [9, 10] (fun v i wr => ∃ (a : Option Addr) (cap q : Nat) (es : List Int) (s' : List UInt8), v = .slice a es.length cap ∧ i = .int .i64 q ∧ es.length + s'.length ≤ 199 ∧
              Hid (OwnI w.heap.size wr.heap.size 3 wr (.slice a es.length cap) es ∧ Below w.heap.size w wr ∧ Tail txt s' q ∧ starP es s' = (e, r))) (fun v _ _ => 400 - slLen v)
          case atStart => exact ⟨some ⟨w.heap.size + 1, 0, none⟩, 1, n + 1, [16 + ((c.toNat : Int) - 97)], r1, by first | rfl | simp, by go_num, hlen1, HI⟩
          case round =>
            obtain ⟨a, cap, q, es, s', rfl, rfl, hl2, HR⟩ := hrel
            have hqT := HR.out.2.2.1.2
            cases s' with
            | nil =>
              have hst := HR.out.2.2.2
              simp only [starP, Prod.mk.injEq] at hst
              have HST := Lib.hid hst
              have hqe : q = txt.length := by simpa using hqT
              have hqI : ¬ (q : Int) < txt.length := by omega
              clear hst hqT
              go_wp2
              refine bodyPost_ret (v := .tuple #[.slice a es.length cap, .int .i64 q, .bool true]) (by simp [results, Tryz.results127, go_sem, hqe]) rfl ?_
              rw [← HST.out.1, ← HST.out.2]
              exact ⟨_, q, rfl, HR.out.2.2.1, HR.out.2.1, HR.out.1⟩
            | cons b t' =>
              obtain ⟨hlq, hbq⟩ := HR.out.2.2.1.get
              have hgq : ∀ hh : q < (ByteArray.mk txt.toArray).size, (ByteArray.mk txt.toArray)[q]'hh = b := fun _ => hbq
              have hqI : (q : Int) < txt.length := by omega
              have hst := HR.out.2.2.2
              simp only [starP] at hst
              by_cases hb42 : b.toNat = 42
              · rw [if_pos hb42] at hst
                have HST := Lib.hid hst
                have hbI : ((b.toNat : Int) == 42) = true := by simp; omega
                have HX := Lib.hid (HR.out.1.sl)
                have hwsz := HR.out.2.1.size
                have H0 : Hid (Own 1 wr.heap.size (wr.heap.size + 1) 3 (wr.alloc (.cells (ints []).toArray 3)) (.slice (some ⟨wr.heap.size, 0, none⟩) 0 0) 0 (ints [])) := Lib.hid (Own.lit 1 3 wr (ints []) 0 (by omega) rfl)
                obtain ⟨w0, hw0⟩ : ∃ w0, w0 = wr.alloc (.cells (ints []).toArray 3) := ⟨_, rfl⟩
                have hb0 : Below wr.heap.size wr w0 := by rw [hw0]; exact (Below.refl _ _).alloc (Nat.le_refl _) _
                have hs0 : w0.heap.size = wr.heap.size + 1 := by rw [hw0]; simp
                rw [← hw0] at H0
                have HW0 := Lib.hid hw0
                have KX := Lib.hid (HX.out.below hb0 (Nat.le_refl _))
                have HB0 := Lib.hid (HR.out.2.1.trans (hb0.mono hwsz))
                have HT2 := Lib.hid HR.out.2.2.1.next
                have hl3 : es.length ≤ 199 := by omega
                have hl4 : es.length + 1 + t'.length ≤ 199 := by simp at hl2; omega
                clear hw0 hb0 hst hb42 hqT HX
                go_wp2_with (at_builtin; rw [show wr.alloc (.cells #[] 3) = w0 from HW0.out.symm]; refine wpList_app_sl rfl _ _ 22 rfl 3 (.int .i64 0) 1 8 Tryz.underlying22 info_int rfl (by decide) (by decide) rfl H0.out rfl KX.out (ints_one _) ?c1 ?c2 ?_)
                case c1 => omega
                case c2 => omega
                intro v1 w1 ho1 _ hout1 _
                have O1 := Lib.hid ho1
                have hs1 := hout1.size
                have HB1 := Lib.hid (Below.outside HB0.out hout1 hwsz (by omega))
                clear ho1 hout1 KX H0 HB0
                go_wp2_with (at_builtin; refine wpList_app_lit w1 rfl _ _ 22 rfl 3 (.int .i64 0) 1 8 Tryz.underlying22 info_int rfl (by decide) (by decide) rfl O1.out 1 (ints [21]) rfl rfl (ints_one _) rfl ?c1 ?c2 ?_)
                case c1 => omega
                case c2 => omega
                intro v2 w2 ho2 hout2 _
                obtain ⟨a', cap', rfl, _⟩ := Own.open ho2
                have H3 := Lib.hid (And.intro ho2 (Below.outside HB1.out hout2 hwsz (by omega)))
                have hs2 := hout2.size
                clear ho2 hout2 O1 HB1
                go_wp2
                go_roundw
                case rel =>
                  refine ⟨a', cap', q + 1, es ++ [21], t', by first | (simp; done) | (simp; omega), by go_num, by simp; omega, Lib.hid ⟨?_, H3.out.2, HT2.out, HST.out⟩⟩
                  have h := Own.wide2 H3.out.1 hwsz (Nat.le_refl _)
                  have e1 : (es ++ [21]).length = es.length + 1 := by simp
                  have e2 : ints (es ++ [21]) = ints [] ++ (ints es ++ ints [21]) := by simp [ints]
                  unfold OwnI
                  rw [e1, e2]
                  exact h
                case measure => simp [slLen]; omega
              · rw [if_neg hb42] at hst
                simp only [Prod.mk.injEq] at hst
                have HST := Lib.hid hst
                have hbI : ((b.toNat : Int) == 42) = false := by simp; omega
                clear hst
                go_wp2
                refine bodyPost_ret (v := .tuple #[.slice a es.length cap, .int .i64 q, .bool true]) (by simp [results, Tryz.results127, go_sem]) rfl ?_
                rw [← HST.out.1, ← HST.out.2]
                exact ⟨_, q, rfl, HR.out.2.2.1, HR.out.2.1, HR.out.1⟩
      · have HRT := Lib.hid hk
        have hex := ext_one txt n hlt
        rw [hc0] at hex
        have hlen1 : [(k : Int)].length + r1.length ≤ 199 := by simp at hlen ⊢; have := hTn; simp at this; omega
        have hcmp : ((97 : Int) ≤ c.toNat ∧ ¬ (c.toNat : Int) ≤ 99) ∨ ¬ (97 : Int) ≤ c.toNat := by omega
        clear hno hk hp1
        rcases hcmp with ⟨i97, i99⟩ | i97
        all_goals (
          go_enter Tryz.func127, Tryz.ntmps127
          go_wp2
          simp only [← HWA.out]
          go_loopw [9, 10, 11, 15] (fun o tt f en wr => (f = .bool false ∧ en = .int .i64 ((n : Int) + 1) ∧ wr = wa) ∨ (∃ a cap, o = .slice a 1 cap ∧ tt = .int .i64 ((n : Int) + 1) ∧ f = .bool true ∧ en = .int .i64 ((n : Int) + 1 + 1) ∧ Hid (OwnI w.heap.size wr.heap.size 3 wr (.slice a 1 cap) [(k : Int)] ∧ Below w.heap.size w wr))) (fun _ _ _ en _ => n + 5 - (intOf en).toNat)
          case atStart => exact .inl ⟨rfl, rfl, rfl⟩
          case round =>
            rcases hrel with ⟨rfl, rfl, rfl⟩ | ⟨a2, cap2, rfl, rfl, rfl, rfl, HO2⟩
            · have hle6 : (n : Int) + 1 ≤ n + 6 := by omega
              have hto1 : ((n : Int) + 1).toNat = n + 1 := by omega
              go_wp2_with fail
              refine (spec_ReadTest [c] _ rfl _).mono ?_
              rintro e' w2 ⟨rfl, hb⟩
              rw [HRT.out, show rdT (some k) = .tuple #[.int .i64 k, .bool true] from rfl]
              have hown := one_own (k : Int) w2
              obtain ⟨wb, hwb⟩ : ∃ wb, wb = w2.alloc (.cells #[.int .i64 (k : Int)] 3) := ⟨_, rfl⟩
              rw [← hwb] at hown
              have hbb : Below w2.heap.size w2 wb := by rw [hwb]; exact (Below.refl _ _).alloc (Nat.le_refl _) _
              have hs2 := hb.size
              have HI := Lib.hid (And.intro (hown.lower (by omega : w.heap.size ≤ w2.heap.size) (Nat.le_refl _)) ((HBA.out.trans (hb.mono (by omega))).trans (hbb.mono (by omega))))
              have HWB := Lib.hid hwb
              clear hown hbb hwb hb
              go_wp2
              simp only [← HWB.out]
              go_roundw
              case rel => refine .inr ⟨some ⟨w2.heap.size, 0, none⟩, 1, ?_, ?_, ?_, ?_, HI⟩ <;> first | rfl | trivial | go_num
              case measure => simp [intOf]; omega
            · have HI := Lib.hid (And.intro HO2.out.1 (And.intro HO2.out.2 (And.intro HTN.out HP2.out)))
              have hle7 : (n : Int) + 1 + 1 ≤ n + 6 := by omega
              by_cases hq2 : (n : Int) + 1 + 1 ≤ txt.length
              all_goals (
                go_wp2
                go_loopw [9, 10] (fun v i wr => ∃ (a : Option Addr) (cap q : Nat) (es : List Int) (s' : List UInt8), v = .slice a es.length cap ∧ i = .int .i64 q ∧ es.length + s'.length ≤ 199 ∧
                    Hid (OwnI w.heap.size wr.heap.size 3 wr (.slice a es.length cap) es ∧ Below w.heap.size w wr ∧ Tail txt s' q ∧ starP es s' = (e, r))) (fun v _ _ => 400 - slLen v)
                case atStart => exact ⟨a2, cap2, n + 1, [(k : Int)], r1, by first | rfl | simp, by go_num, hlen1, HI⟩
                case round =>
                  obtain ⟨a, cap, q, es, s', rfl, rfl, hl2, HR⟩ := hrel
                  have hqT := HR.out.2.2.1.2
                  cases s' with
                  | nil =>
                    have hst := HR.out.2.2.2
                    simp only [starP, Prod.mk.injEq] at hst
                    have HST := Lib.hid hst
                    have hqe : q = txt.length := by simpa using hqT
                    have hqI : ¬ (q : Int) < txt.length := by omega
                    clear hst hqT
                    go_wp2
                    refine bodyPost_ret (v := .tuple #[.slice a es.length cap, .int .i64 q, .bool true]) (by simp [results, Tryz.results127, go_sem, hqe]) rfl ?_
                    rw [← HST.out.1, ← HST.out.2]
                    exact ⟨_, q, rfl, HR.out.2.2.1, HR.out.2.1, HR.out.1⟩
                  | cons b t' =>
                    obtain ⟨hlq, hbq⟩ := HR.out.2.2.1.get
                    have hgq : ∀ hh : q < (ByteArray.mk txt.toArray).size, (ByteArray.mk txt.toArray)[q]'hh = b := fun _ => hbq
                    have hqI : (q : Int) < txt.length := by omega
                    have hst := HR.out.2.2.2
                    simp only [starP] at hst
                    by_cases hb42 : b.toNat = 42
                    · rw [if_pos hb42] at hst
                      have HST := Lib.hid hst
                      have hbI : ((b.toNat : Int) == 42) = true := by simp; omega
                      have HX := Lib.hid (HR.out.1.sl)
                      have hwsz := HR.out.2.1.size
                      have H0 : Hid (Own 1 wr.heap.size (wr.heap.size + 1) 3 (wr.alloc (.cells (ints []).toArray 3)) (.slice (some ⟨wr.heap.size, 0, none⟩) 0 0) 0 (ints [])) := Lib.hid (Own.lit 1 3 wr (ints []) 0 (by omega) rfl)
                      obtain ⟨w0, hw0⟩ : ∃ w0, w0 = wr.alloc (.cells (ints []).toArray 3) := ⟨_, rfl⟩
                      have hb0 : Below wr.heap.size wr w0 := by rw [hw0]; exact (Below.refl _ _).alloc (Nat.le_refl _) _
                      have hs0 : w0.heap.size = wr.heap.size + 1 := by rw [hw0]; simp
                      rw [← hw0] at H0
                      have HW0 := Lib.hid hw0
                      have KX := Lib.hid (HX.out.below hb0 (Nat.le_refl _))
                      have HB0 := Lib.hid (HR.out.2.1.trans (hb0.mono hwsz))
                      have HT2 := Lib.hid HR.out.2.2.1.next
                      have hl3 : es.length ≤ 199 := by omega
                      have hl4 : es.length + 1 + t'.length ≤ 199 := by simp at hl2; omega
                      clear hw0 hb0 hst hb42 hqT HX
                      go_wp2_with (at_builtin; rw [show wr.alloc (.cells #[] 3) = w0 from HW0.out.symm]; refine wpList_app_sl rfl _ _ 22 rfl 3 (.int .i64 0) 1 8 Tryz.underlying22 info_int rfl (by decide) (by decide) rfl H0.out rfl KX.out (ints_one _) ?c1 ?c2 ?_)
                      case c1 => omega
                      case c2 => omega
                      intro v1 w1 ho1 _ hout1 _
                      have O1 := Lib.hid ho1
                      have hs1 := hout1.size
                      have HB1 := Lib.hid (Below.outside HB0.out hout1 hwsz (by omega))
                      clear ho1 hout1 KX H0 HB0
                      go_wp2_with (at_builtin; refine wpList_app_lit w1 rfl _ _ 22 rfl 3 (.int .i64 0) 1 8 Tryz.underlying22 info_int rfl (by decide) (by decide) rfl O1.out 1 (ints [21]) rfl rfl (ints_one _) rfl ?c1 ?c2 ?_)
                      case c1 => omega
                      case c2 => omega
                      intro v2 w2 ho2 hout2 _
                      obtain ⟨a', cap', rfl, _⟩ := Own.open ho2
                      have H3 := Lib.hid (And.intro ho2 (Below.outside HB1.out hout2 hwsz (by omega)))
                      have hs2 := hout2.size
                      clear ho2 hout2 O1 HB1
                      go_wp2
                      go_roundw
                      case rel =>
                        refine ⟨a', cap', q + 1, es ++ [21], t', by first | (simp; done) | (simp; omega), by go_num, by simp; omega, Lib.hid ⟨?_, H3.out.2, HT2.out, HST.out⟩⟩
                        have h := Own.wide2 H3.out.1 hwsz (Nat.le_refl _)
                        have e1 : (es ++ [21]).length = es.length + 1 := by simp
                        have e2 : ints (es ++ [21]) = ints [] ++ (ints es ++ ints [21]) := by simp [ints]
                        unfold OwnI
                        rw [e1, e2]
                        exact h
                      case measure => simp [slLen]; omega
                    · rw [if_neg hb42] at hst
                      simp only [Prod.mk.injEq] at hst
                      have HST := Lib.hid hst
                      have hbI : ((b.toNat : Int) == 42) = false := by simp; omega
                      clear hst
                      go_wp2
                      refine bodyPost_ret (v := .tuple #[.slice a es.length cap, .int .i64 q, .bool true]) (by simp [results, Tryz.results127, go_sem]) rfl ?_
                      rw [← HST.out.1, ← HST.out.2]
                      exact ⟨_, q, rfl, HR.out.2.2.1, HR.out.2.1, HR.out.1⟩))
end Go.Proofs.YtjpndimhegfbnaaGreatDoor
