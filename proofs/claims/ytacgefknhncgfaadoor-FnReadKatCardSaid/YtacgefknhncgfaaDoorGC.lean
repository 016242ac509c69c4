/-
  Texts of walks and plain lemmas for this seat; no condition.
-/
import Derived.Test.YtacgefknhncgfaaDoorGA
import Derived.Test.YtacgefknhncgfaaDoorGB
import Derived.Deep.RegionHeld3
import Derived.Deep.RegionWith
namespace Go.Proofs.YtacgefknhncgfaaDoor
open Go.RowKit
section

theorem specTestValid_any (t : Int) (w : World) : Calls Tryd.prog 43 #[.int .i64 t] w fun e w' => e = .returned (.bool (inB t 0 15)) ∧ w = w' := by
  go_enter Tryd.func43, Tryd.ntmps43
  go_wp2_with (go_at_call 30; refine (l1In_any _ _ _ _).mono ?_; rintro e w' ⟨rfl, rfl⟩)
  go_ret
  exact ⟨rfl, rfl⟩

set_option maxHeartbeats 1600000 in
theorem l1Named_any (t : Nat) (ht : t < 16) (w : World) : Calls Tryd.prog 44 #[.int .i64 t] w fun e w' => e = .returned (.string ⟨((namedT t).getD []).toArray⟩) ∧ w = w' := by
  have h1 : t = 0 ∨ t = 1 ∨ t = 2 ∨ t = 3 ∨ t = 4 ∨ t = 5 ∨ t = 6 ∨ t = 7 ∨ t = 8 ∨ t = 9 ∨ t = 10 ∨ t = 11 ∨ t = 12 ∨ t = 13 ∨ t = 14 ∨ t = 15 := by omega
  clear ht
  rcases h1 with rfl | rfl | rfl | rfl | rfl | rfl | rfl | rfl | rfl | rfl | rfl | rfl | rfl | rfl | rfl | rfl
  all_goals (go_enter Tryd.func44, Tryd.ntmps44; go_wp2; go_ret; exact ⟨rfl, rfl⟩)

theorem conv1 (w : World) (k : Nat) :
    Sem.run Tryd.prog (convert 22 9 (.slice (some ⟨w.heap.size, 0, none⟩) 1 1)) (w.alloc (.cells #[.int .u8 (48 + (k : Int))] 5)) = .ok (.string ⟨#[UInt8.ofNat (48 + k)]⟩) (w.alloc (.cells #[.int .u8 (48 + (k : Int))] 5)) := by
  have h := conv_lit (P := Tryd.prog) 22 9 5 Tryd.underlying22 Tryd.underlying5 Tryd.underlying9 w [48 + (k : Int)]
  simp only [List.length_cons, List.length_nil, List.map_cons, List.map_nil, Nat.zero_add] at h
  rw [show ((48 : Int) + (k : Int)).toNat = 48 + k by omega] at h
  exact h

theorem named_pos : ∀ t, t < 16 → ∀ s, namedT t = some s → (s.length = 1 ∨ s.length = 2) := by decide +kernel

set_option maxRecDepth 100000 in
set_option maxHeartbeats 3200000 in
theorem spec_TestText (t : Nat) (ht : t < 16) (w : World) :
    Calls Tryd.prog 36 #[.int .i64 t] w fun e w' => e = .returned (.string ⟨(testT t).toArray⟩) ∧ Below w.heap.size w w' := by
  have hv : inB (t : Int) 0 15 = true := by simp [inB]; omega
  cases hn : namedT t with
  | some s =>
    have hs : (s == []) = false := by
      rcases named_pos t ht s hn with h | h <;> cases s <;> simp at h ⊢
    have HT := Lib.hid (show testT t = s by simp [testT, hn])
    have HN := l1Named_any t ht
    rw [hn] at HN
    simp only [Option.getD_some] at HN
    replace HN := Lib.hid HN
    clear hn
    go_enter Tryd.func36, Tryd.ntmps36
    go_wp2_with (first | (go_at_call 43; refine (specTestValid_any _ _).mono ?_; rintro e w' ⟨rfl, rfl⟩) | (go_at_call 44; refine (HN.out _).mono ?_; rintro e w' ⟨rfl, rfl⟩))
    go_ret
    exact ⟨by rw [HT.out]; rfl, Below.refl _ _⟩
  | none =>
    have HT := Lib.hid (show testT t = 91 :: atomsT t 4 ++ [93] by simp [testT, hn])
    have HN := l1Named_any t ht
    rw [hn] at HN
    simp only [Option.getD_none] at HN
    replace HN := Lib.hid HN
    clear hn
    go_enter Tryd.func36, Tryd.ntmps36
    go_wp2_with (first | (go_at_call 43; refine (specTestValid_any _ _).mono ?_; rintro e w' ⟨rfl, rfl⟩) | (go_at_call 44; refine (HN.out _).mono ?_; rintro e w' ⟨rfl, rfl⟩))
    go_loopw [3, 4] (fun s i wr => ∃ (k : Nat) (l : List UInt8), k ≤ 4 ∧ i = .int .i64 k ∧ s = .string ⟨l.toArray⟩ ∧ l.length ≤ 1 + k ∧ Hid (l = 91 :: atomsT t k) ∧ Hid (Below w.heap.size w wr)) (fun _ i _ => 4 - (intOf i).toNat)
    case atStart => exact ⟨0, [91], by omega, rfl, rfl, by simp, Lib.hid rfl, Lib.hid (Below.refl _ _)⟩
    case round =>
      obtain ⟨k, l, hk, rfl, rfl, hlen, HL, HB⟩ := hrel
      by_cases hlt : k < 4
      · cases hq : hb t k
        · have HQ := Lib.hid (l1Bit_any t k ht hlt)
          rw [hq] at HQ
          have HN := Lib.hid (atomsT_no hq)
          go_wp2_with (go_at_call 45; refine (HQ.out _).mono ?_; rintro e w' ⟨rfl, rfl⟩)
          go_roundw
          case rel => exact ⟨k + 1, l, by omega, by go_num, rfl, by omega, Lib.hid (by rw [HL.out, HN.out]), HB⟩
          case measure => simp [intOf]; omega
        · have HQ := Lib.hid (l1Bit_any t k ht hlt)
          rw [hq] at HQ
          have HN := Lib.hid (atomsT_yes hq)
          have hcv := conv1 wr k
          go_wp2_with (go_at_call 45; refine (HQ.out _).mono ?_; rintro e w' ⟨rfl, rfl⟩)
          go_roundw
          case rel => exact ⟨k + 1, l ++ [48 + UInt8.ofNat k], by omega, by go_num, congrArg Value.string (cat1 _ _ _ rfl), by simp; omega, Lib.hid (by rw [HL.out, HN.out, UInt8.ofNat_add]; rfl), Lib.hid (HB.out.alloc HB.out.size _)⟩
          case measure => simp [intOf]; omega
      · obtain rfl : k = 4 := by omega
        go_wp2
        go_ret
        exact ⟨congrArg (fun b => Ending.returned (Value.string b)) (cat1 _ _ _ (by rw [HT.out, HL.out])), HB.out⟩

set_option maxRecDepth 100000 in
set_option maxHeartbeats 1600000 in
theorem spec_ReadTest (l : List UInt8) (s : ByteArray) (hs : s = ⟨l.toArray⟩) (w : World) :
    Calls Tryd.prog 40 #[.string s] w fun e w' => e = .returned (rdT (readT l)) ∧ Below w.heap.size w w' := by
  subst hs
  go_enter Tryd.func40, Tryd.ntmps40
  go_wp2
  go_loopw [4] (fun i wr => ∃ k : Nat, k ≤ 16 ∧ i = .int .i64 k ∧ Hid (NoT l k) ∧ Hid (Below w.heap.size w wr)) (fun i _ => 16 - (intOf i).toNat)
  case atStart => exact ⟨0, by omega, rfl, Lib.hid (by intro j hj; omega), Lib.hid (Below.refl _ _)⟩
  case round =>
    obtain ⟨k, hk, rfl, HN, HB⟩ := hrel
    by_cases hlt : k < 16
    · cases hq : (testT k == l)
      · go_wp2_with (go_at_call 36; refine (spec_TestText k hlt _).mono ?_; rintro e w1 ⟨rfl, hb⟩)
        have HB1 := Lib.hid (HB.out.trans (hb.mono HB.out.size))
        clear hb
        go_roundw
        case rel =>
          refine ⟨k + 1, by omega, by go_num, Lib.hid ?_, HB1⟩
          intro j hj
          rcases Nat.lt_or_ge j k with h | h
          · exact HN.out j h
          · obtain rfl : j = k := by omega
            simpa using hq
        case measure => simp [intOf]; omega
      · have HR := Lib.hid (readT_some hlt HN.out (by simpa using hq))
        go_wp2_with (go_at_call 36; refine (spec_TestText k hlt _).mono ?_; rintro e w1 ⟨rfl, hb⟩)
        go_ret2
        exact ⟨by rw [HR.out]; rfl, HB.out.trans (hb.mono HB.out.size)⟩
    · obtain rfl : k = 16 := by omega
      have HR := Lib.hid (readT_none HN.out)
      go_wp2
      go_ret2
      exact ⟨by rw [HR.out]; rfl, HB.out⟩
end

section

/-- s is what the text holds from n on. -/
def Tail (txt s : List UInt8) (n : Nat) : Prop := s = txt.drop n ∧ n + s.length = txt.length
theorem Tail.get {txt t : List UInt8} {d : UInt8} {n : Nat} (h : Tail txt (d :: t) n) : ∃ h : n < txt.length, txt[n] = d := by
  obtain ⟨h1, h2⟩ := h
  have hl : n < txt.length := by simp at h2; omega
  refine ⟨hl, ?_⟩
  rw [List.drop_eq_getElem_cons hl] at h1
  injection h1 with h1 _
  exact h1.symm
theorem Tail.next {txt t : List UInt8} {d : UInt8} {n : Nat} (h : Tail txt (d :: t) n) : Tail txt t (n + 1) := by
  obtain ⟨h1, h2⟩ := h
  have hl : n < txt.length := by simp at h2; omega
  rw [List.drop_eq_getElem_cons hl] at h1
  injection h1 with _ h1
  exact ⟨h1, by simp at h2; omega⟩
/-- What a part of the reader's hands back. -/
def ReadG (txt : List UInt8) (w : World) (e : List Int) (r : List UInt8) (e' : Ending) (w' : World) : Prop :=
  ∃ v n, e' = .returned (.tuple #[v, .int .i64 ((n : Nat) : Int), .bool true]) ∧ Tail txt r n ∧ Below w.heap.size w w' ∧ OwnI w.heap.size w'.heap.size 3 w' v e
def SmallR (p : PR) (m : Nat) : Prop := ∀ (w : World) (txt s : List UInt8) (n deep : Nat) (e : List Int) (r : List UInt8), Tail txt s n → txt.length ≤ 199 → deep + m ≤ 98 → p s = some (e, r) →
  Calls Tryd.prog 29 #[.string ⟨txt.toArray⟩, .int .i64 n, .int .i64 deep] w (ReadG txt w e r)
def GreatR (p : PR) (k : Int) (m : Nat) : Prop := ∀ (w : World) (txt s : List UInt8) (n deep : Nat) (e : List Int) (r : List UInt8), Tail txt s n → txt.length ≤ 199 → deep + m ≤ 98 → p s = some (e, r) →
  Calls Tryd.prog 17 #[.string ⟨txt.toArray⟩, .int .i64 n, .int .i64 k, .int .i64 deep] w (ReadG txt w e r)

theorem ext_one (txt : List UInt8) (n : Nat) (h : n < txt.length) : (ByteArray.mk txt.toArray).extract n (n + 1) = ⟨[txt[n]].toArray⟩ := by
  apply ByteArray.ext
  simp [ByteArray.data_extract]
  rw [List.drop_eq_getElem_cons h]
  rfl

set_option maxRecDepth 100000 in
set_option maxHeartbeats 6400000 in
theorem small_reads (sum : PR) (m : Nat) (hsh : Short sum) (hg : GreatR sum 1 m) : SmallR (starredP (singleP sum)) (m + 1) := by
  intro w txt s n deep e r hT hl hd hp
  simp only [starredP, Option.map_eq_some_iff] at hp
  obtain ⟨⟨e1, r1⟩, hp1, hp2⟩ := hp
  replace hp2 : starP e1 r1 = (e, r) := hp2
  have hlen := single_short hsh _ _ _ hp1
  have hTn := hT.2
  cases s with
  | nil => simp [singleP] at hp1
  | cons c t =>
    obtain ⟨hlt, hc0⟩ := hT.get
    have HTN := Lib.hid hT.next
    have hget : ∀ hh : n < (ByteArray.mk txt.toArray).size, (ByteArray.mk txt.toArray)[n]'hh = c := fun _ => hc0
    have hlt2 : (n : Int) < txt.length := by omega
    have HG := Lib.hid hg
    have HP2 := Lib.hid hp2
    have hwrapn : (n : Int) + 1 ≤ txt.length := by omega
    obtain ⟨wa, hwa⟩ : ∃ wa, wa = w.alloc (.cells #[] 3) := ⟨_, rfl⟩
    have HBA : Hid (Below w.heap.size w wa) := by rw [hwa]; exact Lib.hid ((Below.refl _ _).alloc (Nat.le_refl _) _)
    have hsa : wa.heap.size = w.heap.size + 1 := by rw [hwa]; simp
    have HWA := Lib.hid hwa
    clear hT hg hp2 hwa
    rcases single_open hp1 with ⟨hc, d, hd41, hs⟩ | ⟨hc, h33, h91, rfl, hrest⟩
    · have HP := Lib.hid hs
      have hcI : ((c.toNat : Int) == 40) = true := by simp; omega
      have hcI2 : ¬ (97 : Int) ≤ c.toNat := by omega
      have hdI : ((d.toNat : Int) != 41) = false := by simp; omega
      have hdd : (deep : Int) < 99 := by omega
      clear hp1 hs hc hd41
      go_enter Tryd.func29, Tryd.ntmps29
      go_wp2_with fail
      simp only [← HWA.out]
      refine (HG.out wa txt t (n + 1) (deep + 1) e1 (d :: r1) HTN.out hl (by omega) HP.out).mono ?_
      rintro e' w2 ⟨v2, n2, rfl, hT2, hb, hown⟩
      obtain ⟨hlt3, hd0⟩ := hT2.get
      have hget2 : ∀ hh : n2 < (ByteArray.mk txt.toArray).size, (ByteArray.mk txt.toArray)[n2]'hh = d := fun _ => hd0
      have hlt4 : (n2 : Int) < txt.length := by omega
      obtain ⟨a2, cap2, rfl, _⟩ := Own.open hown
      have HI := Lib.hid (And.intro (hown.lower (by omega : w.heap.size ≤ wa.heap.size) (Nat.le_refl _)) (And.intro (HBA.out.trans (hb.mono (by omega))) (And.intro hT2.next HP2.out)))
      have hlen1 : e1.length + r1.length ≤ 199 := by simp at hlen; have := hTn; simp at this; omega
      clear hb hown hT2
      go_wp2
      go_loopw [9, 10, 11, 15] (fun o tt f en wr => o = .slice a2 e1.length cap2 ∧ tt = .int .i64 ((n2 : Int) + 1) ∧ f = .bool true ∧ en = .int .i64 ((n : Int) + 1) ∧ wr = w2) (fun _ _ _ _ _ => 0)
      case atStart => exact ⟨rfl, rfl, rfl, rfl, rfl⟩
      case round =>
        obtain ⟨rfl, rfl, rfl, rfl, rfl⟩ := hrel
        go_wp2
        go_loopw [9, 10] (fun v i wr => ∃ (a : Option Addr) (cap q : Nat) (es : List Int) (s' : List UInt8), v = .slice a es.length cap ∧ i = .int .i64 q ∧ es.length + s'.length ≤ 199 ∧
            Hid (OwnI w.heap.size wr.heap.size 3 wr (.slice a es.length cap) es ∧ Below w.heap.size w wr ∧ Tail txt s' q ∧ starP es s' = (e, r))) (fun v _ _ => 400 - slLen v)
        case atStart => exact ⟨a2, cap2, n2 + 1, e1, r1, by first | rfl | simp, by go_num, hlen1, HI⟩
        case round =>
          obtain ⟨a, cap, q, es, s', rfl, rfl, hl2, HR⟩ := hrel
          have hqT := HR.out.2.2.1.2
          cases s' with
          | nil =>
            have hst := HR.out.2.2.2
            simp only [starP, Prod.mk.injEq] at hst
            have HST := Lib.hid hst
            have hqe : q = txt.length := by simpa using hqT
            have hqI : ¬ (q : Int) < txt.length := by omega
            clear hst hqT
            go_wp2
            refine bodyPost_ret (v := .tuple #[.slice a es.length cap, .int .i64 q, .bool true]) (by simp [results, Tryd.results29, go_sem, hqe]) rfl ?_
            rw [← HST.out.1, ← HST.out.2]
            exact ⟨_, q, rfl, HR.out.2.2.1, HR.out.2.1, HR.out.1⟩
          | cons b t' =>
            obtain ⟨hlq, hbq⟩ := HR.out.2.2.1.get
            have hgq : ∀ hh : q < (ByteArray.mk txt.toArray).size, (ByteArray.mk txt.toArray)[q]'hh = b := fun _ => hbq
            have hqI : (q : Int) < txt.length := by omega
            have hst := HR.out.2.2.2
            simp only [starP] at hst
            by_cases hb42 : b.toNat = 42
            · rw [if_pos hb42] at hst
              have HST := Lib.hid hst
              have hbI : ((b.toNat : Int) == 42) = true := by simp; omega
              have HX := Lib.hid (HR.out.1.sl)
              have hwsz := HR.out.2.1.size
              have H0 : Hid (Own 1 wr.heap.size (wr.heap.size + 1) 3 (wr.alloc (.cells (ints []).toArray 3)) (.slice (some ⟨wr.heap.size, 0, none⟩) 0 0) 0 (ints [])) := Lib.hid (Own.lit 1 3 wr (ints []) 0 (by omega) rfl)
              obtain ⟨w0, hw0⟩ : ∃ w0, w0 = wr.alloc (.cells (ints []).toArray 3) := ⟨_, rfl⟩
              have hb0 : Below wr.heap.size wr w0 := by rw [hw0]; exact (Below.refl _ _).alloc (Nat.le_refl _) _
              have hs0 : w0.heap.size = wr.heap.size + 1 := by rw [hw0]; simp
              rw [← hw0] at H0
              have HW0 := Lib.hid hw0
              have KX := Lib.hid (HX.out.below hb0 (Nat.le_refl _))
              have HB0 := Lib.hid (HR.out.2.1.trans (hb0.mono hwsz))
              have HT2 := Lib.hid HR.out.2.2.1.next
              have hl3 : es.length ≤ 199 := by omega
              have hl4 : es.length + 1 + t'.length ≤ 199 := by simp at hl2; omega
              clear hw0 hb0 hst hb42 hqT HX
              go_wp2_with (at_builtin; rw [show wr.alloc (.cells #[] 3) = w0 from HW0.out.symm]; refine wpList_app_sl rfl _ _ 24 rfl 3 (.int .i64 0) 1 8 Tryd.underlying24 info_int rfl (by decide) (by decide) rfl H0.out rfl KX.out (ints_one _) ?c1 ?c2 ?_)
              case c1 => omega
              case c2 => omega
              intro v1 w1 ho1 _ hout1 _
              have O1 := Lib.hid ho1
              have hs1 := hout1.size
              have HB1 := Lib.hid (Below.outside HB0.out hout1 hwsz (by omega))
              clear ho1 hout1 KX H0 HB0
              go_wp2_with (at_builtin; refine wpList_app_lit w1 rfl _ _ 24 rfl 3 (.int .i64 0) 1 8 Tryd.underlying24 info_int rfl (by decide) (by decide) rfl O1.out 1 (ints [21]) rfl rfl (ints_one _) rfl ?c1 ?c2 ?_)
              case c1 => omega
              case c2 => omega
              intro v2 w2 ho2 hout2 _
              obtain ⟨a', cap', rfl, _⟩ := Own.open ho2
              have H3 := Lib.hid (And.intro ho2 (Below.outside HB1.out hout2 hwsz (by omega)))
              have hs2 := hout2.size
              clear ho2 hout2 O1 HB1
              go_wp2
              go_roundw
              case rel =>
                refine ⟨a', cap', q + 1, es ++ [21], t', by first | (simp; done) | (simp; omega), by go_num, by simp; omega, Lib.hid ⟨?_, H3.out.2, HT2.out, HST.out⟩⟩
                have h := Own.wide2 H3.out.1 hwsz (Nat.le_refl _)
                have e1 : (es ++ [21]).length = es.length + 1 := by simp
                have e2 : ints (es ++ [21]) = ints [] ++ (ints es ++ ints [21]) := by simp [ints]
                unfold OwnI
                rw [e1, e2]
                exact h
              case measure => simp [slLen]; omega
            · rw [if_neg hb42] at hst
              simp only [Prod.mk.injEq] at hst
              have HST := Lib.hid hst
              have hbI : ((b.toNat : Int) == 42) = false := by simp; omega
              clear hst
              go_wp2
              refine bodyPost_ret (v := .tuple #[.slice a es.length cap, .int .i64 q, .bool true]) (by simp [results, Tryd.results29, go_sem]) rfl ?_
              rw [← HST.out.1, ← HST.out.2]
              exact ⟨_, q, rfl, HR.out.2.2.1, HR.out.2.1, HR.out.1⟩
    · have hcI : ((c.toNat : Int) == 40) = false := by simp; omega
      have hlen1 : e1.length + r.length ≤ e1.length + r.length := Nat.le_refl _
      clear hlen1
      rcases hrest with ⟨h97, h99, rfl⟩ | ⟨hno, k, hk, rfl⟩
      · have i97 : (97 : Int) ≤ c.toNat := by omega
        have i99 : (c.toNat : Int) ≤ 99 := by omega
        have hown := one_own (16 + ((c.toNat : Int) - 97)) wa
        obtain ⟨wb, hwb⟩ : ∃ wb, wb = wa.alloc (.cells #[.int .i64 (16 + ((c.toNat : Int) - 97))] 3) := ⟨_, rfl⟩
        rw [← hwb, hsa] at hown
        have hbb : Below wa.heap.size wa wb := by rw [hwb]; exact (Below.refl _ _).alloc (Nat.le_refl _) _
        have HI := Lib.hid (And.intro (hown.lower (by omega : w.heap.size ≤ w.heap.size + 1) (Nat.le_refl _)) (And.intro (HBA.out.trans (hbb.mono (by omega))) (And.intro HTN.out HP2.out)))
        have hlen1 : [16 + ((c.toNat : Int) - 97)].length + r1.length ≤ 199 := by simp at hlen ⊢; have := hTn; simp at this; omega
        have HWB := Lib.hid hwb
        clear hown hbb hwb hp1
        go_enter Tryd.func29, Tryd.ntmps29
        go_wp2
        simp only [← HWA.out]
        simp only [← HWB.out]
        go_loopw [9, 10, 11, 15] (fun o tt f en wr => o = .slice (some ⟨w.heap.size + 1, 0, none⟩) 1 1 ∧ tt = .int .i64 ((n : Int) + 1) ∧ f = .bool true ∧ en = .int .i64 ((n : Int) + 1) ∧ wr = wb) (fun _ _ _ _ _ => 0)
        case atStart => exact ⟨rfl, rfl, rfl, rfl, rfl⟩
        case round =>
          obtain ⟨rfl, rfl, rfl, rfl, rfl⟩ := hrel
          go_wp2
          go_loopw [9, 10] (fun v i wr => ∃ (a : Option Addr) (cap q : Nat) (es : List Int) (s' : List UInt8), v = .slice a es.length cap ∧ i = .int .i64 q ∧ es.length + s'.length ≤ 199 ∧
              Hid (OwnI w.heap.size wr.heap.size 3 wr (.slice a es.length cap) es ∧ Below w.heap.size w wr ∧ Tail txt s' q ∧ starP es s' = (e, r))) (fun v _ _ => 400 - slLen v)
          case atStart => exact ⟨some ⟨w.heap.size + 1, 0, none⟩, 1, n + 1, [16 + ((c.toNat : Int) - 97)], r1, by first | rfl | simp, by go_num, hlen1, HI⟩
          case round =>
            obtain ⟨a, cap, q, es, s', rfl, rfl, hl2, HR⟩ := hrel
            have hqT := HR.out.2.2.1.2
            cases s' with
            | nil =>
              have hst := HR.out.2.2.2
              simp only [starP, Prod.mk.injEq] at hst
              have HST := Lib.hid hst
              have hqe : q = txt.length := by simpa using hqT
              have hqI : ¬ (q : Int) < txt.length := by omega
              clear hst hqT
              go_wp2
              refine bodyPost_ret (v := .tuple #[.slice a es.length cap, .int .i64 q, .bool true]) (by simp [results, Tryd.results29, go_sem, hqe]) rfl ?_
              rw [← HST.out.1, ← HST.out.2]
              exact ⟨_, q, rfl, HR.out.2.2.1, HR.out.2.1, HR.out.1⟩
            | cons b t' =>
              obtain ⟨hlq, hbq⟩ := HR.out.2.2.1.get
              have hgq : ∀ hh : q < (ByteArray.mk txt.toArray).size, (ByteArray.mk txt.toArray)[q]'hh = b := fun _ => hbq
              have hqI : (q : Int) < txt.length := by omega
              have hst := HR.out.2.2.2
              simp only [starP] at hst
              by_cases hb42 : b.toNat = 42
              · rw [if_pos hb42] at hst
                have HST := Lib.hid hst
                have hbI : ((b.toNat : Int) == 42) = true := by simp; omega
                have HX := Lib.hid (HR.out.1.sl)
                have hwsz := HR.out.2.1.size
                have H0 : Hid (Own 1 wr.heap.size (wr.heap.size + 1) 3 (wr.alloc (.cells (ints []).toArray 3)) (.slice (some ⟨wr.heap.size, 0, none⟩) 0 0) 0 (ints [])) := Lib.hid (Own.lit 1 3 wr (ints []) 0 (by omega) rfl)
                obtain ⟨w0, hw0⟩ : ∃ w0, w0 = wr.alloc (.cells (ints []).toArray 3) := ⟨_, rfl⟩
                have hb0 : Below wr.heap.size wr w0 := by rw [hw0]; exact (Below.refl _ _).alloc (Nat.le_refl _) _
                have hs0 : w0.heap.size = wr.heap.size + 1 := by rw [hw0]; simp
                rw [← hw0] at H0
                have HW0 := Lib.hid hw0
                have KX := Lib.hid (HX.out.below hb0 (Nat.le_refl _))
                have HB0 := Lib.hid (HR.out.2.1.trans (hb0.mono hwsz))
                have HT2 := Lib.hid HR.out.2.2.1.next
                have hl3 : es.length ≤ 199 := by omega
                have hl4 : es.length + 1 + t'.length ≤ 199 := by simp at hl2; omega
                clear hw0 hb0 hst hb42 hqT HX
                go_wp2_with (at_builtin; rw [show wr.alloc (.cells #[] 3) = w0 from HW0.out.symm]; refine wpList_app_sl rfl _ _ 24 rfl 3 (.int .i64 0) 1 8 Tryd.underlying24 info_int rfl (by decide) (by decide) rfl H0.out rfl KX.out (ints_one _) ?c1 ?c2 ?_)
                case c1 => omega
                case c2 => omega
                intro v1 w1 ho1 _ hout1 _
                have O1 := Lib.hid ho1
                have hs1 := hout1.size
                have HB1 := Lib.hid (Below.outside HB0.out hout1 hwsz (by omega))
                clear ho1 hout1 KX H0 HB0
                go_wp2_with (at_builtin; refine wpList_app_lit w1 rfl _ _ 24 rfl 3 (.int .i64 0) 1 8 Tryd.underlying24 info_int rfl (by decide) (by decide) rfl O1.out 1 (ints [21]) rfl rfl (ints_one _) rfl ?c1 ?c2 ?_)
                case c1 => omega
                case c2 => omega
                intro v2 w2 ho2 hout2 _
                obtain ⟨a', cap', rfl, _⟩ := Own.open ho2
                have H3 := Lib.hid (And.intro ho2 (Below.outside HB1.out hout2 hwsz (by omega)))
                have hs2 := hout2.size
                clear ho2 hout2 O1 HB1
                go_wp2
                go_roundw
                case rel =>
                  refine ⟨a', cap', q + 1, es ++ [21], t', by first | (simp; done) | (simp; omega), by go_num, by simp; omega, Lib.hid ⟨?_, H3.out.2, HT2.out, HST.out⟩⟩
                  have h := Own.wide2 H3.out.1 hwsz (Nat.le_refl _)
                  have e1 : (es ++ [21]).length = es.length + 1 := by simp
                  have e2 : ints (es ++ [21]) = ints [] ++ (ints es ++ ints [21]) := by simp [ints]
                  unfold OwnI
                  rw [e1, e2]
                  exact h
                case measure => simp [slLen]; omega
              · rw [if_neg hb42] at hst
                simp only [Prod.mk.injEq] at hst
                have HST := Lib.hid hst
                have hbI : ((b.toNat : Int) == 42) = false := by simp; omega
                clear hst
                go_wp2
                refine bodyPost_ret (v := .tuple #[.slice a es.length cap, .int .i64 q, .bool true]) (by simp [results, Tryd.results29, go_sem]) rfl ?_
                rw [← HST.out.1, ← HST.out.2]
                exact ⟨_, q, rfl, HR.out.2.2.1, HR.out.2.1, HR.out.1⟩
      · have HRT := Lib.hid hk
        have hex := ext_one txt n hlt
        rw [hc0] at hex
        have hlen1 : [(k : Int)].length + r1.length ≤ 199 := by simp at hlen ⊢; have := hTn; simp at this; omega
        have hcmp : ((97 : Int) ≤ c.toNat ∧ ¬ (c.toNat : Int) ≤ 99) ∨ ¬ (97 : Int) ≤ c.toNat := by omega
        clear hno hk hp1
        rcases hcmp with ⟨i97, i99⟩ | i97
        all_goals (
          go_enter Tryd.func29, Tryd.ntmps29
          go_wp2
          simp only [← HWA.out]
          go_loopw [9, 10, 11, 15] (fun o tt f en wr => (f = .bool false ∧ en = .int .i64 ((n : Int) + 1) ∧ wr = wa) ∨ (∃ a cap, o = .slice a 1 cap ∧ tt = .int .i64 ((n : Int) + 1) ∧ f = .bool true ∧ en = .int .i64 ((n : Int) + 1 + 1) ∧ Hid (OwnI w.heap.size wr.heap.size 3 wr (.slice a 1 cap) [(k : Int)] ∧ Below w.heap.size w wr))) (fun _ _ _ en _ => n + 5 - (intOf en).toNat)
          case atStart => exact .inl ⟨rfl, rfl, rfl⟩
          case round =>
            rcases hrel with ⟨rfl, rfl, rfl⟩ | ⟨a2, cap2, rfl, rfl, rfl, rfl, HO2⟩
            · have hle6 : (n : Int) + 1 ≤ n + 6 := by omega
              have hto1 : ((n : Int) + 1).toNat = n + 1 := by omega
              go_wp2_with fail
              refine (spec_ReadTest [c] _ rfl _).mono ?_
              rintro e' w2 ⟨rfl, hb⟩
              rw [HRT.out, show rdT (some k) = .tuple #[.int .i64 k, .bool true] from rfl]
              have hown := one_own (k : Int) w2
              obtain ⟨wb, hwb⟩ : ∃ wb, wb = w2.alloc (.cells #[.int .i64 (k : Int)] 3) := ⟨_, rfl⟩
              rw [← hwb] at hown
              have hbb : Below w2.heap.size w2 wb := by rw [hwb]; exact (Below.refl _ _).alloc (Nat.le_refl _) _
              have hs2 := hb.size
              have HI := Lib.hid (And.intro (hown.lower (by omega : w.heap.size ≤ w2.heap.size) (Nat.le_refl _)) ((HBA.out.trans (hb.mono (by omega))).trans (hbb.mono (by omega))))
              have HWB := Lib.hid hwb
              clear hown hbb hwb hb
              go_wp2
              simp only [← HWB.out]
              go_roundw
              case rel => refine .inr ⟨some ⟨w2.heap.size, 0, none⟩, 1, ?_, ?_, ?_, ?_, HI⟩ <;> first | rfl | trivial | go_num
              case measure => simp [intOf]; omega
            · have HI := Lib.hid (And.intro HO2.out.1 (And.intro HO2.out.2 (And.intro HTN.out HP2.out)))
              have hle7 : (n : Int) + 1 + 1 ≤ n + 6 := by omega
              by_cases hq2 : (n : Int) + 1 + 1 ≤ txt.length
              all_goals (
                go_wp2
                go_loopw [9, 10] (fun v i wr => ∃ (a : Option Addr) (cap q : Nat) (es : List Int) (s' : List UInt8), v = .slice a es.length cap ∧ i = .int .i64 q ∧ es.length + s'.length ≤ 199 ∧
                    Hid (OwnI w.heap.size wr.heap.size 3 wr (.slice a es.length cap) es ∧ Below w.heap.size w wr ∧ Tail txt s' q ∧ starP es s' = (e, r))) (fun v _ _ => 400 - slLen v)
                case atStart => exact ⟨a2, cap2, n + 1, [(k : Int)], r1, by first | rfl | simp, by go_num, hlen1, HI⟩
                case round =>
                  obtain ⟨a, cap, q, es, s', rfl, rfl, hl2, HR⟩ := hrel
                  have hqT := HR.out.2.2.1.2
                  cases s' with
                  | nil =>
                    have hst := HR.out.2.2.2
                    simp only [starP, Prod.mk.injEq] at hst
                    have HST := Lib.hid hst
                    have hqe : q = txt.length := by simpa using hqT
                    have hqI : ¬ (q : Int) < txt.length := by omega
                    clear hst hqT
                    go_wp2
                    refine bodyPost_ret (v := .tuple #[.slice a es.length cap, .int .i64 q, .bool true]) (by simp [results, Tryd.results29, go_sem, hqe]) rfl ?_
                    rw [← HST.out.1, ← HST.out.2]
                    exact ⟨_, q, rfl, HR.out.2.2.1, HR.out.2.1, HR.out.1⟩
                  | cons b t' =>
                    obtain ⟨hlq, hbq⟩ := HR.out.2.2.1.get
                    have hgq : ∀ hh : q < (ByteArray.mk txt.toArray).size, (ByteArray.mk txt.toArray)[q]'hh = b := fun _ => hbq
                    have hqI : (q : Int) < txt.length := by omega
                    have hst := HR.out.2.2.2
                    simp only [starP] at hst
                    by_cases hb42 : b.toNat = 42
                    · rw [if_pos hb42] at hst
                      have HST := Lib.hid hst
                      have hbI : ((b.toNat : Int) == 42) = true := by simp; omega
                      have HX := Lib.hid (HR.out.1.sl)
                      have hwsz := HR.out.2.1.size
                      have H0 : Hid (Own 1 wr.heap.size (wr.heap.size + 1) 3 (wr.alloc (.cells (ints []).toArray 3)) (.slice (some ⟨wr.heap.size, 0, none⟩) 0 0) 0 (ints [])) := Lib.hid (Own.lit 1 3 wr (ints []) 0 (by omega) rfl)
                      obtain ⟨w0, hw0⟩ : ∃ w0, w0 = wr.alloc (.cells (ints []).toArray 3) := ⟨_, rfl⟩
                      have hb0 : Below wr.heap.size wr w0 := by rw [hw0]; exact (Below.refl _ _).alloc (Nat.le_refl _) _
                      have hs0 : w0.heap.size = wr.heap.size + 1 := by rw [hw0]; simp
                      rw [← hw0] at H0
                      have HW0 := Lib.hid hw0
                      have KX := Lib.hid (HX.out.below hb0 (Nat.le_refl _))
                      have HB0 := Lib.hid (HR.out.2.1.trans (hb0.mono hwsz))
                      have HT2 := Lib.hid HR.out.2.2.1.next
                      have hl3 : es.length ≤ 199 := by omega
                      have hl4 : es.length + 1 + t'.length ≤ 199 := by simp at hl2; omega
                      clear hw0 hb0 hst hb42 hqT HX
                      go_wp2_with (at_builtin; rw [show wr.alloc (.cells #[] 3) = w0 from HW0.out.symm]; refine wpList_app_sl rfl _ _ 24 rfl 3 (.int .i64 0) 1 8 Tryd.underlying24 info_int rfl (by decide) (by decide) rfl H0.out rfl KX.out (ints_one _) ?c1 ?c2 ?_)
                      case c1 => omega
                      case c2 => omega
                      intro v1 w1 ho1 _ hout1 _
                      have O1 := Lib.hid ho1
                      have hs1 := hout1.size
                      have HB1 := Lib.hid (Below.outside HB0.out hout1 hwsz (by omega))
                      clear ho1 hout1 KX H0 HB0
                      go_wp2_with (at_builtin; refine wpList_app_lit w1 rfl _ _ 24 rfl 3 (.int .i64 0) 1 8 Tryd.underlying24 info_int rfl (by decide) (by decide) rfl O1.out 1 (ints [21]) rfl rfl (ints_one _) rfl ?c1 ?c2 ?_)
                      case c1 => omega
                      case c2 => omega
                      intro v2 w2 ho2 hout2 _
                      obtain ⟨a', cap', rfl, _⟩ := Own.open ho2
                      have H3 := Lib.hid (And.intro ho2 (Below.outside HB1.out hout2 hwsz (by omega)))
                      have hs2 := hout2.size
                      clear ho2 hout2 O1 HB1
                      go_wp2
                      go_roundw
                      case rel =>
                        refine ⟨a', cap', q + 1, es ++ [21], t', by first | (simp; done) | (simp; omega), by go_num, by simp; omega, Lib.hid ⟨?_, H3.out.2, HT2.out, HST.out⟩⟩
                        have h := Own.wide2 H3.out.1 hwsz (Nat.le_refl _)
                        have e1 : (es ++ [21]).length = es.length + 1 := by simp
                        have e2 : ints (es ++ [21]) = ints [] ++ (ints es ++ ints [21]) := by simp [ints]
                        unfold OwnI
                        rw [e1, e2]
                        exact h
                      case measure => simp [slLen]; omega
                    · rw [if_neg hb42] at hst
                      simp only [Prod.mk.injEq] at hst
                      have HST := Lib.hid hst
                      have hbI : ((b.toNat : Int) == 42) = false := by simp; omega
                      clear hst
                      go_wp2
                      refine bodyPost_ret (v := .tuple #[.slice a es.length cap, .int .i64 q, .bool true]) (by simp [results, Tryd.results29, go_sem]) rfl ?_
                      rw [← HST.out.1, ← HST.out.2]
                      exact ⟨_, q, rfl, HR.out.2.2.1, HR.out.2.1, HR.out.1⟩))
end

section

set_option maxRecDepth 100000 in
set_option maxHeartbeats 1600000 in
theorem great3_reads (p : PR) (m : Nat) (h : SmallR p m) : GreatR p 3 m := by
  intro w txt s n deep e r hT hl hd hp
  have HC := Lib.hid (h w txt s n deep e r hT hl hd hp)
  clear h hT hp
  go_enter Tryd.func17, Tryd.ntmps17
  go_wp2_with fail
  refine HC.out.mono ?_
  rintro e' w1 ⟨v, q, rfl, h1, h2, h3⟩
  have H := Lib.hid (And.intro h1 (And.intro h2 h3))
  clear h1 h2 h3
  go_wp2
  refine bodyPost_ret (v := .tuple #[v, .int .i64 q, .bool true]) (by simp [results, Tryd.results17, go_sem]) rfl ⟨v, q, rfl, H.out.1, H.out.2.1, H.out.2.2⟩

set_option maxRecDepth 100000 in
set_option maxHeartbeats 6400000 in
theorem great2_reads (part : PR) (m : Nat) (hsh : Short part) (hpart : GreatR part 3 m) : GreatR (chainP 59 19 part) 2 m := by
  intro w txt s n deep e r hT hl hd hp
  simp only [chainP, Option.bind_eq_some_iff] at hp
  obtain ⟨⟨e1, r1⟩, hp1, hp2⟩ := hp
  have hlen := hsh _ _ _ hp1
  have hTn := hT.2
  have HP := Lib.hid hpart
  have HS := Lib.hid hsh
  have HC := Lib.hid (hpart w txt s n deep e1 r1 hT hl hd hp1)
  have HL := Lib.hid (Exists.intro (p := fun q => loopP 59 19 part q e1 r1 = some (e, r)) r1.length hp2)
  clear hpart hsh hp1 hp2 hT
  go_enter Tryd.func17, Tryd.ntmps17
  go_wp2_with fail
  refine HC.out.mono ?_
  rintro e' w1 ⟨v1, n1, rfl, hT1, hb, hown⟩
  obtain ⟨a1, cap1, rfl, _⟩ := Own.open hown
  have HI := Lib.hid (And.intro hown (And.intro hb (And.intro hT1 HL.out)))
  have hl1 : e1.length + r1.length ≤ 199 := by omega
  clear hb hown hT1 HC HL
  go_wp2
  go_loopw [11, 12, 13] (fun v i f wr => ∃ (a : Option Addr) (cap q : Nat) (es : List Int) (s' : List UInt8), v = .slice a es.length cap ∧ i = .int .i64 q ∧ f = .bool true ∧ es.length + s'.length ≤ 199 ∧
      Hid (OwnI w.heap.size wr.heap.size 3 wr (.slice a es.length cap) es ∧ Below w.heap.size w wr ∧ Tail txt s' q ∧ ∃ x, loopP 59 19 part x es s' = some (e, r))) (fun v _ _ _ => 400 - slLen v)
  case atStart => exact ⟨a1, cap1, n1, e1, r1, rfl, rfl, rfl, hl1, HI⟩
  case round =>
    obtain ⟨a, cap, q, es, s', rfl, rfl, rfl, hl2, HR⟩ := hrel
    clear HI
    obtain ⟨x, hx⟩ := HR.out.2.2.2
    have hqT := HR.out.2.2.1.2
    cases s' with
    | nil =>
      have hst : es = e ∧ [] = r := by cases x <;> simpa [loopP] using hx
      have HST := Lib.hid hst
      have hqe : q = txt.length := by simpa using hqT
      have hqI : ¬ (q : Int) < txt.length := by omega
      clear hst hqT hx
      go_wp2
      go_region
      all_goals (
        go_wp2
        refine bodyPost_ret (v := .tuple #[.slice a es.length cap, .int .i64 q, .bool true]) (by simp [results, Tryd.results17, go_sem, hqe]) rfl ?_
        rw [← HST.out.1, ← HST.out.2]
        exact ⟨_, q, rfl, HR.out.2.2.1, HR.out.2.1.drew, HR.out.1⟩)
    | cons b t' =>
      obtain ⟨hlq, hbq⟩ := HR.out.2.2.1.get
      have hgq : ∀ hh : q < (ByteArray.mk txt.toArray).size, (ByteArray.mk txt.toArray)[q]'hh = b := fun _ => hbq
      have hqI : (q : Int) < txt.length := by omega
      rcases loop_open hx with ⟨hq, he, hr⟩ | ⟨hq, e2, r2, x', hq1, hq2⟩
      · have HE := Lib.hid (And.intro he hr)
        have hbI : ((b.toNat : Int) == 59) = false := hq
        clear hq he hr hx
        go_wp2
        go_region
        have hbn : Below wr.heap.size wr (wr.alloc (.cells #[.int .u8 43, .int .u8 59] 5)).drew := ((Below.refl _ _).alloc (Nat.le_refl _) _).drew
        have hsn : wr.heap.size ≤ (wr.alloc (.cells #[.int .u8 43, .int .u8 59] 5)).drew.heap.size := hbn.size
        have HF := Lib.hid (And.intro (HR.out.2.1.trans (hbn.mono HR.out.2.1.size)) ((HR.out.1.below hbn (Nat.le_refl _)).lower (Nat.le_refl _) hsn))
        clear hbn hsn
        go_wp2
        refine bodyPost_ret (v := .tuple #[.slice a es.length cap, .int .i64 q, .bool true]) (by simp [results, Tryd.results17, go_sem]) rfl ?_
        rw [HE.out.1, HE.out.2]
        exact ⟨_, q, rfl, HR.out.2.2.1, HF.out.1, HF.out.2⟩
      · have HQ1 := Lib.hid hq1
        have HQ2 := Lib.hid hq2
        have hbI : ((b.toNat : Int) == 59) = true := hq
        clear hq hq1 hq2 hx
        go_wp2
        go_region
        obtain ⟨w2, hw2⟩ : ∃ w2, w2 = (wr.alloc (.cells #[.int .u8 43, .int .u8 59] 5)).drew := ⟨_, rfl⟩
        have hbn : Below wr.heap.size wr w2 := by rw [hw2]; exact ((Below.refl _ _).alloc (Nat.le_refl _) _).drew
        have hsn := hbn.size
        have HF := Lib.hid (And.intro (HR.out.2.1.trans (hbn.mono HR.out.2.1.size)) ((HR.out.1.below hbn (Nat.le_refl _)).lower (Nat.le_refl _) hsn))
        have HTN := Lib.hid HR.out.2.2.1.next
        have HW2 := Lib.hid hw2
        have hsh2 := HS.out _ _ _ HQ1.out
        simp only [List.tail_cons] at hsh2
        have hl4 : es.length + 1 + t'.length ≤ 199 := by simp at hl2; omega
        clear hbn hw2 hqT
        go_wp2_with fail
        simp only [← HW2.out]
        refine (HP.out w2 txt t' (q + 1) deep e2 r2 HTN.out hl hd HQ1.out).mono ?_
        rintro e' w3 ⟨v3, n3, rfl, hT3, hb3, hown3⟩
        obtain ⟨a3, cap3, rfl, _⟩ := Own.open hown3
        have hs3 := hb3.size
        have HF3 := Lib.hid (And.intro (HF.out.1.trans (hb3.mono HF.out.1.size)) (HF.out.2.below hb3 (Nat.le_refl _)))
        have HO3 := Lib.hid hown3
        have HT3 := Lib.hid hT3
        clear hb3 hown3 hT3
        obtain ⟨w4, hw4⟩ : ∃ w4, w4 = w3.alloc (.cells #[.int .i64 20, .int .i64 19] 3) := ⟨_, rfl⟩
        have hb4 : Below w3.heap.size w3 w4 := by rw [hw4]; exact (Below.refl _ _).alloc (Nat.le_refl _) _
        have hs4 := hb4.size
        have HW4 := Lib.hid hw4
        have HA := Lib.hid (HF3.out.2.sl.below hb4 hs3)
        have HB := Lib.hid (HO3.out.sl.below hb4 (Nat.le_refl _))
        have HF4 := Lib.hid (HF3.out.1.trans (hb4.mono HF3.out.1.size))
        clear hw4 hb4
        go_wp2_with fail
        simp only [← HW4.out]
        refine (l2Join_any _ _ _ _ _ _ es e2 19 w4 HA.out HB.out (by omega) (by omega) (by omega)).mono ?_
        rintro e' w5 ⟨v5, rfl, hb5, hown5⟩
        obtain ⟨a5, cap5, rfl, _⟩ := Own.open hown5
        have hs1' := HF4.out.size
        have HI5 := Lib.hid (And.intro (hown5.lower hs1' (Nat.le_refl _)) (And.intro (HF4.out.trans (hb5.mono hs1')) (And.intro HT3.out (Exists.intro (p := fun z => loopP 59 19 part z (es ++ e2 ++ [19]) r2 = some (e, r)) x' HQ2.out))))
        clear hb5 hown5
        go_wp2
        go_roundw
        case rel => exact ⟨a5, cap5, n3, es ++ e2 ++ [19], r2, by first | rfl | (simp; done) | (simp; omega), rfl, rfl, by simp; omega, HI5⟩
        case measure => simp [slLen]; omega

set_option maxRecDepth 100000 in
set_option maxHeartbeats 6400000 in
theorem great1_reads (part : PR) (m : Nat) (hsh : Short part) (hpart : GreatR part 2 m) : GreatR (chainP 43 20 part) 1 m := by
  intro w txt s n deep e r hT hl hd hp
  simp only [chainP, Option.bind_eq_some_iff] at hp
  obtain ⟨⟨e1, r1⟩, hp1, hp2⟩ := hp
  have hlen := hsh _ _ _ hp1
  have hTn := hT.2
  have HP := Lib.hid hpart
  have HS := Lib.hid hsh
  have HC := Lib.hid (hpart w txt s n deep e1 r1 hT hl hd hp1)
  have HL := Lib.hid (Exists.intro (p := fun q => loopP 43 20 part q e1 r1 = some (e, r)) r1.length hp2)
  clear hpart hsh hp1 hp2 hT
  go_enter Tryd.func17, Tryd.ntmps17
  go_wp2_with fail
  refine HC.out.mono ?_
  rintro e' w1 ⟨v1, n1, rfl, hT1, hb, hown⟩
  obtain ⟨a1, cap1, rfl, _⟩ := Own.open hown
  have HI := Lib.hid (And.intro hown (And.intro hb (And.intro hT1 HL.out)))
  have hl1 : e1.length + r1.length ≤ 199 := by omega
  clear hb hown hT1 HC HL
  go_wp2
  go_loopw [11, 12, 13] (fun v i f wr => ∃ (a : Option Addr) (cap q : Nat) (es : List Int) (s' : List UInt8), v = .slice a es.length cap ∧ i = .int .i64 q ∧ f = .bool true ∧ es.length + s'.length ≤ 199 ∧
      Hid (OwnI w.heap.size wr.heap.size 3 wr (.slice a es.length cap) es ∧ Below w.heap.size w wr ∧ Tail txt s' q ∧ ∃ x, loopP 43 20 part x es s' = some (e, r))) (fun v _ _ _ => 400 - slLen v)
  case atStart => exact ⟨a1, cap1, n1, e1, r1, rfl, rfl, rfl, hl1, HI⟩
  case round =>
    obtain ⟨a, cap, q, es, s', rfl, rfl, rfl, hl2, HR⟩ := hrel
    clear HI
    obtain ⟨x, hx⟩ := HR.out.2.2.2
    have hqT := HR.out.2.2.1.2
    cases s' with
    | nil =>
      have hst : es = e ∧ [] = r := by cases x <;> simpa [loopP] using hx
      have HST := Lib.hid hst
      have hqe : q = txt.length := by simpa using hqT
      have hqI : ¬ (q : Int) < txt.length := by omega
      clear hst hqT hx
      go_wp2
      go_region
      all_goals (
        go_wp2
        refine bodyPost_ret (v := .tuple #[.slice a es.length cap, .int .i64 q, .bool true]) (by simp [results, Tryd.results17, go_sem, hqe]) rfl ?_
        rw [← HST.out.1, ← HST.out.2]
        exact ⟨_, q, rfl, HR.out.2.2.1, HR.out.2.1.drew, HR.out.1⟩)
    | cons b t' =>
      obtain ⟨hlq, hbq⟩ := HR.out.2.2.1.get
      have hgq : ∀ hh : q < (ByteArray.mk txt.toArray).size, (ByteArray.mk txt.toArray)[q]'hh = b := fun _ => hbq
      have hqI : (q : Int) < txt.length := by omega
      rcases loop_open hx with ⟨hq, he, hr⟩ | ⟨hq, e2, r2, x', hq1, hq2⟩
      · have HE := Lib.hid (And.intro he hr)
        have hbI : ((b.toNat : Int) == 43) = false := hq
        clear hq he hr hx
        go_wp2
        go_region
        have hbn : Below wr.heap.size wr (wr.alloc (.cells #[.int .u8 43, .int .u8 59] 5)).drew := ((Below.refl _ _).alloc (Nat.le_refl _) _).drew
        have hsn : wr.heap.size ≤ (wr.alloc (.cells #[.int .u8 43, .int .u8 59] 5)).drew.heap.size := hbn.size
        have HF := Lib.hid (And.intro (HR.out.2.1.trans (hbn.mono HR.out.2.1.size)) ((HR.out.1.below hbn (Nat.le_refl _)).lower (Nat.le_refl _) hsn))
        clear hbn hsn
        go_wp2
        refine bodyPost_ret (v := .tuple #[.slice a es.length cap, .int .i64 q, .bool true]) (by simp [results, Tryd.results17, go_sem]) rfl ?_
        rw [HE.out.1, HE.out.2]
        exact ⟨_, q, rfl, HR.out.2.2.1, HF.out.1, HF.out.2⟩
      · have HQ1 := Lib.hid hq1
        have HQ2 := Lib.hid hq2
        have hbI : ((b.toNat : Int) == 43) = true := hq
        clear hq hq1 hq2 hx
        go_wp2
        go_region
        obtain ⟨w2, hw2⟩ : ∃ w2, w2 = (wr.alloc (.cells #[.int .u8 43, .int .u8 59] 5)).drew := ⟨_, rfl⟩
        have hbn : Below wr.heap.size wr w2 := by rw [hw2]; exact ((Below.refl _ _).alloc (Nat.le_refl _) _).drew
        have hsn := hbn.size
        have HF := Lib.hid (And.intro (HR.out.2.1.trans (hbn.mono HR.out.2.1.size)) ((HR.out.1.below hbn (Nat.le_refl _)).lower (Nat.le_refl _) hsn))
        have HTN := Lib.hid HR.out.2.2.1.next
        have HW2 := Lib.hid hw2
        have hsh2 := HS.out _ _ _ HQ1.out
        simp only [List.tail_cons] at hsh2
        have hl4 : es.length + 1 + t'.length ≤ 199 := by simp at hl2; omega
        clear hbn hw2 hqT
        go_wp2_with fail
        simp only [← HW2.out]
        refine (HP.out w2 txt t' (q + 1) deep e2 r2 HTN.out hl hd HQ1.out).mono ?_
        rintro e' w3 ⟨v3, n3, rfl, hT3, hb3, hown3⟩
        obtain ⟨a3, cap3, rfl, _⟩ := Own.open hown3
        have hs3 := hb3.size
        have HF3 := Lib.hid (And.intro (HF.out.1.trans (hb3.mono HF.out.1.size)) (HF.out.2.below hb3 (Nat.le_refl _)))
        have HO3 := Lib.hid hown3
        have HT3 := Lib.hid hT3
        clear hb3 hown3 hT3
        obtain ⟨w4, hw4⟩ : ∃ w4, w4 = w3.alloc (.cells #[.int .i64 20, .int .i64 19] 3) := ⟨_, rfl⟩
        have hb4 : Below w3.heap.size w3 w4 := by rw [hw4]; exact (Below.refl _ _).alloc (Nat.le_refl _) _
        have hs4 := hb4.size
        have HW4 := Lib.hid hw4
        have HA := Lib.hid (HF3.out.2.sl.below hb4 hs3)
        have HB := Lib.hid (HO3.out.sl.below hb4 (Nat.le_refl _))
        have HF4 := Lib.hid (HF3.out.1.trans (hb4.mono HF3.out.1.size))
        clear hw4 hb4
        go_wp2_with fail
        simp only [← HW4.out]
        refine (l2Join_any _ _ _ _ _ _ es e2 20 w4 HA.out HB.out (by omega) (by omega) (by omega)).mono ?_
        rintro e' w5 ⟨v5, rfl, hb5, hown5⟩
        obtain ⟨a5, cap5, rfl, _⟩ := Own.open hown5
        have hs1' := HF4.out.size
        have HI5 := Lib.hid (And.intro (hown5.lower hs1' (Nat.le_refl _)) (And.intro (HF4.out.trans (hb5.mono hs1')) (And.intro HT3.out (Exists.intro (p := fun z => loopP 43 20 part z (es ++ e2 ++ [20]) r2 = some (e, r)) x' HQ2.out))))
        clear hb5 hown5
        go_wp2
        go_roundw
        case rel => exact ⟨a5, cap5, n3, es ++ e2 ++ [20], r2, by first | rfl | (simp; done) | (simp; omega), rfl, rfl, by simp; omega, HI5⟩
        case measure => simp [slLen]; omega
end

section

theorem sum_greats : ∀ n, GreatR (sumP n) 1 n
  | 0 => by intro w txt s n deep e r hT hl hd hp; cases hp
  | n + 1 => great1_reads _ _ (chain_short (starred_short (single_short (sum_short n)))) (great2_reads _ _ (starred_short (single_short (sum_short n))) (great3_reads _ _ (small_reads _ _ (sum_short n) (sum_greats n))))

set_option maxRecDepth 100000 in
set_option maxHeartbeats 1600000 in
theorem spec_ReadKat (txt : List UInt8) (e : List Int) (s : ByteArray) (hs : s = ⟨txt.toArray⟩) (w : World) (hl : txt.length ≤ 98) (hp : sumP txt.length txt = some (e, [])) (hv : katV e = true) :
    Calls Tryd.prog 6 #[.string s] w (RetV fun x w' => ∃ v, x = .tuple #[v, .bool true] ∧ Below w.heap.size w w' ∧ OwnI w.heap.size w'.heap.size 3 w' v e) := by
  subst hs
  have HC := Lib.hid (sum_greats txt.length w txt txt 0 0 e [] ⟨by simp, by simp⟩ (by omega) (by omega) hp)
  have helen : e.length ≤ 1048576 := by have := sum_short txt.length _ _ _ hp; simp at this; omega
  clear hp
  go_enter Tryd.func6, Tryd.ntmps6
  go_wp2_with fail
  refine HC.out.mono ?_
  rintro e' w1 ⟨v, n, rfl, hT, hb, hown⟩
  have hn : n = txt.length := by have := hT.2; simpa using this
  subst hn
  obtain ⟨a, cap, rfl, _⟩ := Own.open hown
  have HI := Lib.hid (And.intro hb hown)
  clear hb hown hT HC
  go_wp2_with fail
  refine (spec_KatValid _ _ _ e _ HI.out.2.sl helen).mono ?_
  rintro e' w2 ⟨rfl, rfl⟩
  rw [hv]
  go_wp2
  refine bodyPost_ret (v := .tuple #[.slice a e.length cap, .bool true]) (by simp [results, Tryd.results6, go_sem]) rfl ⟨_, rfl, _, rfl, HI.out.1, HI.out.2⟩

theorem convC (w : World) (x : Nat) :
    Sem.run Tryd.prog (convert 22 9 (.slice (some ⟨w.heap.size, 0, none⟩) 1 1)) (w.alloc (.cells #[.int .u8 (x : Int)] 5)) = .ok (.string ⟨#[UInt8.ofNat x]⟩) (w.alloc (.cells #[.int .u8 (x : Int)] 5)) := by
  have h := conv_lit (P := Tryd.prog) 22 9 5 Tryd.underlying22 Tryd.underlying5 Tryd.underlying9 w [(x : Int)]
  simp only [List.length_cons, List.length_nil, List.map_cons, List.map_nil, Nat.zero_add, Int.toNat_natCast] at h
  exact h
theorem map_take_next {txt : List UInt8} {k : Nat} (h : k < txt.length) : (txt.take (k + 1)).map repl8 = (txt.take k).map repl8 ++ [repl8 txt[k]] := by
  rw [List.map_take, List.map_take, List.take_add_one, List.getElem?_eq_getElem (by simpa using h)]
  simp

end

section

theorem rule_cut : ∀ n, n < 21 → ruleT.getD n [] = sideT n true ++ 61 :: sideT n false ∧ ((sideT n true).all fun c => c.toNat != 61) = true := by decide +kernel
def ruleVs : List Value := ruleT.map fun l => .string ⟨l.toArray⟩
theorem ruleVs_get {n : Nat} (h : n < 21) : ruleVs[n]? = some (.string ⟨(ruleT.getD n []).toArray⟩) := by
  have hl : n < ruleT.length := h
  simp [ruleVs, List.getD, hl]

theorem ext_pre (a b : List UInt8) (c : UInt8) : (ByteArray.mk (a ++ c :: b).toArray).extract 0 a.length = ⟨a.toArray⟩ := by
  apply ByteArray.ext
  simp [ByteArray.data_extract]
theorem ext_suf (a b : List UInt8) (c : UInt8) : (ByteArray.mk (a ++ c :: b).toArray).extract (a.length + 1) (a ++ c :: b).length = ⟨b.toArray⟩ := by
  rw [extN]
  congr 2
  rw [show a.length + 1 = (a ++ [c]).length by simp, show a ++ c :: b = (a ++ [c]) ++ b by simp, List.drop_left]

end
end Go.Proofs.YtacgefknhncgfaaDoor
